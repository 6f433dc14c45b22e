/- Proved here: parts of the proof: ShelfS ShelfT KSort KSpr. Conditions: those that each theorem states. -/
import Derived.Shelf.SlGeneric
import Derived.Shelf.SlSortCmp.WholeK
import Derived.Ground.SlsfProg
import Derived.Test.YthblojaeoiemmaaGreatDoorProg
import Derived.Shelf.Small.Bits
import Derived.Test.YthblojaeoiemmaaGreatDoorKMatAQ
import Derived.Maps.RangeWalk
import Derived.WalkMore
section
namespace Go.Proofs
open Go.Shelf
def Tryz.sortE_ren:Go.Shelf.Ren:=⟨fun | 6=>106 | 15=>152 | 14=>151 | 28=>187 | 29=>188 | 20=>179 | 21=>180 | 22=>181 | 23=>182 | 24=>183 | 25=>184 | 26=>185 | 27=>186 | 46=>203 | 47=>204 | 48=>205 | 49=>206 | 50=>207 | 57=>216 | n=>n,fun | 22=>96 | 24=>98 | 25=>181 | 3=>3 | 39=>205 | 0=>0 | 53=>99 | 55=>64 | 4=>4 | 46=>248 | 45=>247 | 50=>252 | 5=>5 | 9=>9 | 66=>269 | 70=>273 | 76=>281 | 77=>282 | n=>n,fun | n=>n⟩
theorem Tryz.sortE:Go.Proofs.SlLaysF0.n6 Tryz.prog Tryz.sortE_ren:={
 mixed:=by kernel_rfl
 f6:=⟨Tryz.f106.name,by decide,Tryz.func106.trans (congrArg some (by kernel_rfl))⟩
 f14:=⟨Tryz.f151.name,by decide,Tryz.func151.trans (congrArg some (by kernel_rfl))⟩
 f15:=Tryz.func152.trans (congrArg some (by kernel_rfl))
 f20:=⟨Tryz.f179.name,by decide,Tryz.func179.trans (congrArg some (by kernel_rfl))⟩
 f21:=⟨Tryz.f180.name,by decide,Tryz.func180.trans (congrArg some (by kernel_rfl))⟩
 f22:=⟨Tryz.f181.name,by decide,Tryz.func181.trans (congrArg some (by kernel_rfl))⟩
 f23:=⟨Tryz.f182.name,by decide,Tryz.func182.trans (congrArg some (by kernel_rfl))⟩
 f24:=⟨Tryz.f183.name,by decide,Tryz.func183.trans (congrArg some (by kernel_rfl))⟩
 f25:=⟨Tryz.f184.name,by decide,Tryz.func184.trans (congrArg some (by kernel_rfl))⟩
 f26:=⟨Tryz.f185.name,by decide,Tryz.func185.trans (congrArg some (by kernel_rfl))⟩
 f27:=⟨Tryz.f186.name,by decide,Tryz.func186.trans (congrArg some (by kernel_rfl))⟩
 f28:=Tryz.func187.trans (congrArg some (by kernel_rfl))
 f29:=Tryz.func188.trans (congrArg some (by kernel_rfl))
 f46:=⟨Tryz.f203.name,by decide,Tryz.func203.trans (congrArg some (by kernel_rfl))⟩
 f47:=Tryz.func204.trans (congrArg some (by kernel_rfl))
 f48:=Tryz.func205.trans (congrArg some (by kernel_rfl))
 f49:=⟨Tryz.f206.name,by decide,Tryz.func206.trans (congrArg some (by kernel_rfl))⟩
 f50:=⟨Tryz.f207.name,by decide,Tryz.func207.trans (congrArg some (by kernel_rfl))⟩
 f57:=⟨Tryz.f216.name,by decide,Tryz.func216.trans (congrArg some (by kernel_rfl))⟩
 t0:=Tryz.underlying0
 a0:=Tryz.isAgg0
 z0:=Tryz.sizeOf0
 v0:=Tryz.zeroValue0
 t3:=Tryz.underlying3
 a3:=Tryz.isAgg3
 z3:=Tryz.sizeOf3
 v3:=Tryz.zeroValue3
 t4:=Tryz.underlying4
 a4:=Tryz.isAgg4
 z4:=Tryz.sizeOf4
 v4:=Tryz.zeroValue4
 t5:=Tryz.underlying5
 a5:=Tryz.isAgg5
 z5:=Tryz.sizeOf5
 v5:=Tryz.zeroValue5
 t9:=Tryz.underlying9
 a9:=Tryz.isAgg9
 z9:=Tryz.sizeOf9
 v9:=Tryz.zeroValue9
 t22:=Tryz.underlying96
 a22:=Tryz.isAgg96
 z22:=Tryz.sizeOf96
 v22:=Tryz.zeroValue96
 t25:=Tryz.underlying181
 a25:=Tryz.isAgg181
 z25:=Tryz.sizeOf181
 v25:=Tryz.zeroValue181
 t39:=Tryz.underlying205
 a39:=Tryz.isAgg205
 z39:=Tryz.sizeOf205
 v39:=Tryz.zeroValue205
 t45:=Tryz.underlying247
 a45:=Tryz.isAgg247
 z45:=Tryz.sizeOf247
 v45:=Tryz.zeroValue247
 t46:=Tryz.underlying248
 a46:=Tryz.isAgg248
 z46:=Tryz.sizeOf248
 v46:=Tryz.zeroValue248
 t50:=Tryz.underlying252
 a50:=Tryz.isAgg252
 z50:=Tryz.sizeOf252
 v50:=Tryz.zeroValue252
 t53:=Tryz.underlying99
 a53:=Tryz.isAgg99
 z53:=Tryz.sizeOf99
 v53:=Tryz.zeroValue99
 t55:=Tryz.underlying64
 a55:=Tryz.isAgg64
 z55:=Tryz.sizeOf64
 v55:=Tryz.zeroValue64
 t66:=Tryz.underlying269
 a66:=Tryz.isAgg269
 z66:=Tryz.sizeOf269
 v66:=Tryz.zeroValue269
 t70:=Tryz.underlying273
 a70:=Tryz.isAgg273
 z70:=Tryz.sizeOf273
 v70:=Tryz.zeroValue273
 t76:=Tryz.underlying281
 a76:=Tryz.isAgg281
 z76:=Tryz.sizeOf281
 v76:=Tryz.zeroValue281
 t77:=Tryz.underlying282
 a77:=Tryz.isAgg282
 z77:=Tryz.sizeOf282
 v77:=Tryz.zeroValue282 }
end Go.Proofs
end
section
namespace Go.Proofs
open Go.Shelf
def Tryz.lays125_ren:Go.Shelf.Ren:=⟨fun | 125=>152 | 128=>187 | 129=>188 | n=>n,fun | 46=>205 | 3=>3 | 51=>99 | 53=>64 | 4=>4 | 5=>5 | 9=>9 | n=>n,fun | n=>n⟩
theorem Tryz.lays125:Go.Proofs.Lays.n125 Tryz.prog Tryz.lays125_ren:={
 mixed:=by kernel_rfl
 f125:=Tryz.func152.trans (congrArg some (by kernel_rfl))
 f128:=Tryz.func187.trans (congrArg some (by kernel_rfl))
 f129:=Tryz.func188.trans (congrArg some (by kernel_rfl))
 t3:=Tryz.underlying3
 a3:=Tryz.isAgg3
 z3:=Tryz.sizeOf3
 v3:=Tryz.zeroValue3
 t4:=Tryz.underlying4
 a4:=Tryz.isAgg4
 z4:=Tryz.sizeOf4
 v4:=Tryz.zeroValue4
 t5:=Tryz.underlying5
 a5:=Tryz.isAgg5
 z5:=Tryz.sizeOf5
 v5:=Tryz.zeroValue5
 t9:=Tryz.underlying9
 a9:=Tryz.isAgg9
 z9:=Tryz.sizeOf9
 v9:=Tryz.zeroValue9
 t46:=Tryz.underlying205
 a46:=Tryz.isAgg205
 z46:=Tryz.sizeOf205
 v46:=Tryz.zeroValue205
 t51:=Tryz.underlying99
 a51:=Tryz.isAgg99
 z51:=Tryz.sizeOf99
 v51:=Tryz.zeroValue99
 t53:=Tryz.underlying64
 a53:=Tryz.isAgg64
 z53:=Tryz.sizeOf64
 v53:=Tryz.zeroValue64 }
theorem Tryz.bits_Len (x:Int) (w:World) (h0:0≤x) (h1:x≤18446744073709551615) :
  Calls Tryz.prog 152 #[.int .u64 x] w fun e w'=>e=.returned (.int .i64 (Lib.bitLen x.toNat))∧w'=w:=Any.bits_Len Tryz.lays125 x w h0 h1
end Go.Proofs
end
section
namespace Gus
open Go Go.RowKit Go.Proofs Go.Sort Go.Shelf
set_option maxHeartbeats 1000000 in
theorem sparse1_any (x y:Ent) (W:World):Calls Tryz.prog 107 #[.agg (ecs x).toArray,.agg (ecs y).toArray] W fun e w'=>e=.returned (.int .i64 (Lib.compareInt x.1 y.1))∧∃ q os',w'=grow (W.drewN q) os':=by
 have hcon:=fun W'=>Tryz.cmp_Compare_int x.1 y.1 W'
 generalize Lib.compareInt x.1 y.1=r at hcon ⊢
 unfold ecs fcs
 go_enter Tryz.func107,Tryz.ntmps107
 go_wp2_with (go_at_call 108;refine(hcon _).mono ?_;rintro e w' ⟨rfl,rfl⟩)
 go_ret
 exact⟨rfl,0,_,by rw[alloc_eq_grow,alloc_eq_grow,grow_grow];rfl⟩
theorem cmpLays1 (blk off size:Nat) (w:World):CmpLays Tryz.prog 107 #[] ecs 6 (fun x y=>Lib.compareInt x.1 y.1) blk off size w:=
 fun _ _ _ _ x y=>sparse1_any x y _
theorem ltCol (x y:Ent):ltOf (fun x y:Ent=>Lib.compareInt x.1 y.1) x y=decide (x.1<y.1):=by
 unfold ltOf Lib.compareInt
 by_cases h1:x.1<y.1
 ·simp[h1]
 ·by_cases h2:y.1<x.1 <;> simp[h1,h2]
theorem swoCol:SWO (ltOf fun x y:Ent=>Lib.compareInt x.1 y.1) where
 irrefl x:=by rw[ltCol];simp
 trans x y z h1 h2:=by rw[ltCol] at *;simp at *;omega
 ntrans x y z h1 h2:=by rw[ltCol] at *;simp at *;omega
theorem ins_nil (fv:Value) (w:World):Calls Tryz.prog 179 #[.slice none 0 0,.int .i64 0,.int .i64 0,fv] w fun e w'=>e=.returned (.tuple #[])∧w'=w:=by
 go_enter Tryz.func179,Tryz.ntmps179
 go_wp2_with fail
 go_loop [8] (fun v8=>v8=.int .i64 1) (fun _=>0)
 case atStart=>rfl
 case round=>
  subst hrel
  go_wp2_with fail
  go_end0
  exact⟨rfl,rfl⟩
theorem pdq_nil (fv:Value) (lim:Int) (w:World):Calls Tryz.prog 151 #[.slice none 0 0,.int .i64 0,.int .i64 0,.int .i64 lim,fv] w fun e w'=>e=.returned (.tuple #[])∧w'=w:=by
 have h1:=ins_nil fv
 go_enter Tryz.func151,Tryz.ntmps151
 go_wp2_with fail
 go_loop [1,2] (fun v1 v2=>v1=.int .i64 0∧v2=.int .i64 0) (fun _ _=>0)
 case atStart=>exact⟨rfl,rfl⟩
 case round=>
  obtain⟨rfl,rfl⟩:=hrel
  go_wp2_with (go_at_call 179;refine(h1 _).mono ?_;rintro e w' ⟨rfl,rfl⟩)
  ((try simp only[Exit.inBlock,Exit.then]);refine bodyPost_ret (results_none rfl _ _ _) rfl ?_)
  exact⟨rfl,rfl⟩
theorem sortE_nil (g:Nat) (w:World):Calls Tryz.prog 106 #[.slice none 0 0,.func (.func g) #[] #[]] w fun e w'=>e=.returned (.tuple #[])∧w'=w:=by
 have h1:=fun l W=>pdq_nil (.func (.func g) #[] #[]) l W
 have h2:=fun W=>Tryz.bits_Len 0 W (by decide) (by decide)
 go_enter Tryz.func106,Tryz.ntmps106
 go_wp2_with fail
 refine(h2 _).mono ?_
 rintro e w' ⟨rfl,rfl⟩
 go_wp2_with fail
 refine(h1 _ _).mono ?_
 rintro e w' ⟨rfl,rfl⟩
 go_wp2_with fail
 go_end0
 exact⟨rfl,rfl⟩
theorem sortE_any (w:World) (lo:Nat) (ti:Bool) (v:Value) (es:List Ent) (h:RowIs w lo ti v es) (hl:es.length≤2048) :
  Calls Tryz.prog 106 #[v,.func (.func 107) #[] #[]] w fun e w'=>e=.returned (.tuple #[])∧∃ es':List Ent,es'.Perm es∧(es'.Pairwise fun a b=>¬ b.1<a.1)∧RowIs w' lo ti v es'∧w.grownBy w' v.ownBlock:=by
 rcases h with ⟨rfl,rfl⟩|⟨g,cap,cur,rfl,hx⟩
 ·refine(sortE_nil _ w).mono ?_
  rintro e w' ⟨rfl,rfl⟩
  exact⟨rfl,[],.nil,.nil,.inl ⟨rfl,rfl⟩,⟨rfl,rfl,rfl,Nat.le_refl _,fun _ _ _=>rfl⟩⟩
 ·have h:RowIs w lo ti (.slice (some ⟨g,0,none⟩) es.length cap) es:=.inr ⟨g,cap,cur,rfl,hx⟩
  have eg:∀ args w,(callFunc 107 args).run Tryz.prog w=.ok (.enter 107 args) w:=enters_of Tryz.func107 (by kernel_rfl) rfl
  have hcon:=AnyQ.slices_SortFunc Tryz.sortE 6 Tryz.isAgg98 Tryz.sizeOf98 ecs (fun _=>rfl) (fun x v hv=>by simp[ecs,fcs] at hv;rcases hv with rfl | rfl | rfl | rfl | rfl | rfl <;> rfl) (fun x y=>Lib.compareInt x.1 y.1) swoCol 107 #[] g 0 cap es.toArray w eg (cmpLays1 g 0 es.toArray.size w) (h.holds rfl) (Array.getElem?_eq_some_iff.1 hx.2.1).1 (by simp;omega)
  change Calls Tryz.prog 106 _ _ _ at hcon
  rw[show es.toArray.size=es.length by simp] at hcon
  refine hcon.mono ?_
  rintro e w' ⟨rfl,d,n,os,hp,hs,rfl⟩
  have hp':=permIn_all (d:=es.toArray) (by rw[show es.toArray.size=es.length by simp];exact hp)
  have hd:d.size=es.length:=by rw[hp'.1];simp
  refine⟨rfl,d.toList,by simpa using hp'.2,sortedIn_all ltCol (by rw[hd];exact hs),h.sorted rfl n d os hd,sortWorld_grown w g n d os⟩
theorem clip_some (a:Addr) (n cap:Nat) (h:n≤cap) (w:World):Calls Tryz.prog 109 #[.slice (some a) n cap] w fun e w'=>e=.returned (.slice (some a) n n)∧w'=w:=by
 go_enter Tryz.func109,Tryz.ntmps109
 go_wp2_with fail
 go_ret
 exact⟨rfl,rfl⟩
theorem clip_nil (w:World):Calls Tryz.prog 109 #[.slice none 0 0] w fun e w'=>e=.returned (.slice none 0 0)∧w'=w:=by
 go_enter Tryz.func109,Tryz.ntmps109
 go_wp2_with fail
 go_ret
 exact⟨rfl,rfl⟩
end Gus
end
section
namespace Gus
open Go Go.RowKit Go.Proofs
def nilS:Value:=.slice none 0 0
theorem info_rows:(Tryz.prog.info? 96).map (fun i=>(i.zero,i.size,i.bytes))=some (some (.slice none 0 0),1,24):=by kernel_rfl
theorem gr_cell (w:World) (a:Addr) (u:Value):w.grownBy (w.setCell a u) (some a.block):=
 ⟨rfl,rfl,rfl,by rw[World.size_setCell];exact Nat.le_refl _,fun k _ hk=>heap_setCell_other w a k u (fun e=>hk (by rw[e]))⟩
theorem info_ent:(Tryz.prog.info? 98).map (fun i=>(i.zero,i.size,i.bytes))=some (some (.agg #[.int .i64 0,.int .u64 0,.string ⟨#[]⟩,.bool false,.int .u64 0,.string ⟨#[]⟩]),6,64):=by kernel_rfl
theorem mk_rows (L:Nat) (hL:L≤4096) (w:World):(Instr.makeSlice 25 (.int .i64 (L:Int)) (.int .i64 (L:Int))).run Tryz.prog w =
  .ok (.slice (some ⟨w.heap.size,0,none⟩) L L) (w.alloc (.cells (List.replicate L nilS).toArray 96)):=by
 obtain⟨i0,hi,hz0,hz1,hz2⟩:=info_parts info_rows
 have:=run_make (P:=Tryz.prog) w 25 96 i0 (.slice none 0 0) Tryz.underlying25 hi hz0 .i64 .i64 L L (by omega) (Int.le_refl _) (by rw[hz2];omega) (by omega)
 rw[this]
 simp only[Int.toNat_natCast,hz1,Nat.mul_one]
 have e:madeCells (Value.slice none 0 0).cells L=(List.replicate L nilS).toArray:=by
  apply Array.toList_inj.1
  rw[show(Value.slice none 0 0).cells=#[.slice none 0 0] from rfl,toList_madeCells_one];rfl
 rw[e]
theorem RowsAre.start (w:World) (lo N:Nat):RowsAre w lo true N (List.replicate N nilS) (fun _=>[]):=by
 have hg:∀ i,i<N→(List.replicate N nilS).getD i undef=nilS:=fun i hi=>by
  rw[List.getD_eq_getElem?_getD,List.getElem?_replicate,if_pos hi];rfl
 refine⟨by simp,fun i hi=>?_,fun i j hi hj hne b hb=>?_⟩
 ·rw[hg i hi];exact .inl ⟨rfl,rfl⟩
 ·rw[hg i hi] at hb;simp[nilS,Value.ownBlock] at hb
def NewM (X N M:Nat) (x:Value) (w:World):Prop:=∃ R,x=.agg #[.int .i64 N,.int .i64 M,.slice (some ⟨R,0,none⟩) N N]∧X≤R∧Bx w R 96 (List.replicate N nilS)
theorem stable_newM (X N M:Nat):Stable (NewM X N M):=fun _ _ _ ⟨R,h1,h2,h3⟩ hs=>⟨R,h1,h2,h3.call hs⟩
def J1 (w:World) (X S R r b n N M:Nat) (D:DataW Rat) (f:Nat→Nat→Rat) (wr:World):Prop:=
 ∃ left cnt vs Ls,wr.ranges Tryz.prog 178 Rf b r n D left cnt∧Bx wr S 27 [.int .i64 N,.int .i64 M,.slice (some ⟨R,0,none⟩) N N]∧Bx wr R 96 vs ∧
  Bx wr X 27 [.int .i64 0,.int .i64 0,.slice none 0 0]∧In X w wr∧RowsAre wr (r+1) true N vs Ls∧Cnt f N M (fun i k=>left (posL (i:Int) (k:Int))) Ls∧∀ l,left l=true→Maps.has D l=true
def sortedF (f:Nat→Nat→Rat) (M:Nat) (Ls:Nat→List Ent) (k:Nat):Nat→List Ent:=fun i=>if i<k then rowOf (f i) M else Ls i
theorem sortedF_zero (f:Nat→Nat→Rat) (M:Nat) (Ls:Nat→List Ent):sortedF f M Ls 0=Ls:=by
 funext i;unfold sortedF;rw[if_neg (Nat.not_lt_zero _)]
theorem sortedF_succ (f:Nat→Nat→Rat) (M:Nat) (Ls:Nat→List Ent) (k:Nat):updF (sortedF f M Ls k) k (rowOf (f k) M)=sortedF f M Ls (k+1):=by
 funext i
 unfold updF sortedF
 by_cases h:i=k
 ·subst h;rw[if_pos rfl,if_pos (Nat.lt_succ_self _)]
 ·rw[if_neg h]
  by_cases h2:i<k
  ·rw[if_pos h2,if_pos (by omega)]
  ·rw[if_neg h2,if_neg (by omega)]
def clipV:Value→Value
 | .slice (some a) n _=>.slice (some a) n n
 | v=>v
theorem clipV_own (v:Value):(clipV v).ownBlock=v.ownBlock:=by
 unfold clipV
 split <;> rfl
theorem RowIs.clip {w:World} {lo:Nat} {v:Value} {es:List Ent} (h:RowIs w lo false v es):RowIs w lo false (clipV v) es:=by
 rcases h with ⟨rfl,rfl⟩|⟨g,cap,cur,rfl,h0,hg,h1,h2,h3,_,h4⟩
 ·exact .inl ⟨rfl,rfl⟩
 ·exact .inr ⟨g,es.length,cur,rfl,h0,hg,Nat.le_refl _,by omega,by omega,(fun h=>by cases h),h4⟩
theorem gr_bel {w w1 w2:World} {row:Option Nat} (h:w.grownBy w1 row) (hb:Below w1.heap.size w1 w2):w.grownBy w2 row:=
 ⟨hb.os.trans h.os,hb.tape.trans h.tape,hb.output.trans h.output,Nat.le_trans h.size hb.size,fun k hk hne=>(hb.block k (Nat.lt_of_lt_of_le hk h.size)).trans (h.block k hk hne)⟩
def J2 (w:World) (X S R r N M:Nat) (f:Nat→Nat→Rat) (Ls:Nat→List Ent) (v55:Value) (wr:World):Prop:=
 ∃ k vs,k≤N∧v55=.int .i64 (k:Nat)∧Bx wr S 27 [.int .i64 N,.int .i64 M,.slice (some ⟨R,0,none⟩) N N]∧Bx wr R 96 vs ∧
  Bx wr X 27 [.int .i64 0,.int .i64 0,.slice none 0 0]∧In X w wr∧RowsAre wr (r+1) false N vs (sortedF f M Ls k)
set_option maxRecDepth 100000 in
set_option maxHeartbeats 4000000 in
theorem bsparse_any (w:World) (p b n N M:Nat) (f:Nat→Nat→Rat) (hB:BB w p b n N M f) (hN:N≤2048) (hM:M≤2048) :
  Calls Tryz.prog 59 #[.pointer (some ⟨p,0,none⟩)] w fun e w'=>∃ v,e=.returned v∧SpOwn w' w.heap.size v N M (fun i=>rowOf (f i) M)∧Below w.heap.size w w':=by
 obtain⟨D,h1,h2,h3,h4,h5⟩:=hB.2
 obtain⟨ie,he0,hex⟩:=Option.map_eq_some_iff.1 info_ent
 have he1:=(Prod.mk.inj hex).1
 have he2:=(Prod.mk.inj (Prod.mk.inj hex).2).1
 have he3:=(Prod.mk.inj (Prod.mk.inj hex).2).2
 clear hex
 have hmk:=mk_rows N (by omega)
 have HMK:=Lib.hid hmk
 clear hmk
 obtain⟨X,hX⟩:∃ X,X=w.heap.size:=⟨_,rfl⟩
 have bp:=hB.1
 have HX:=Lib.hid hX
 go_enter Tryz.func59,Tryz.ntmps59
 go_upto_region 3 with fail
 rw[←hX]
 obtain⟨W0,hW0⟩:∃ W0,W0=w.alloc (.cells #[.int .i64 0,.int .i64 0,.slice none 0 0] 27):=⟨_,rfl⟩
 have bp0:=bp.alloc (.cells #[.int .i64 0,.int .i64 0,.slice none 0 0] 27)
 have br0:=Bx.new_at w #[.int .i64 0,.int .i64 0,.slice none 0 0] 27 hX
 have hin:In X w W0:=by rw[hW0,hX];exact(In.self w).alloc _
 have hmap:W0.ownsMap Tryz.prog 178 Rf b n D:=by rw[hW0];exact h1.alloc _
 rw[←hW0] at bp0 br0 ⊢
 clear hW0 hX h1 bp hB
 have c0:=bp0.c0
 have c1:=bp0.c1
 have c2:=bp0.c2
 have l0:=bp0.lt
 have h:=In.self W0
 have hc:=h.cell
 refine tfw 15 ?_;refine tset ?_;(repeat (first | refine tfs ?_))
 (with_reducible refine flow_slice (t:=96) (zs:=(List.replicate N nilS).toArray) (n:=N) ?_ ?_ ?_ ?_);(focus (with_reducible rfl));(focus rfl);(focus (intro u w1 hw hd;replace hd:=thn hd;go_simp;rw[HMK.out];simp[Result.andThen]))
 (with_reducible refine flow_rel (Vi:=NewM W0.heap.size N M) false ?_ ?_ ?_ ?_ ?_ ?_)
 case refine_1=>rfl
 case refine_2=>rfl
 case refine_3=>exact stable_newM _ _ _
 case refine_4=>exact placed_false _
 case refine_5=>
  intro u w1 hw hd
  replace hd:=thn hd
  obtain⟨e1,e2,R,e3,e4,e5⟩:=hd
  go_simp
  exact⟨⟨⟨R,rfl,e4,e5⟩,fun h=>by cases h⟩,St.refl _⟩
 (repeat (first | refine tfs ?_))
 (try clear hc hf h);intro u w' h ha hdi;replace h:=tsz h.ins;replace ha:=tah ha;have hc:=h.cell;have hf:=h.frozen
 obtain⟨⟨⟨ha,R2,hu12,_,_⟩,R,hu13,hRX,bR⟩,S,hu14,hSX,bS⟩:=ha
 have hSR:S≠R:=fun e=>by
  subst e
  have e1:=bR
  have e2:=bS
  unfold Bx at e1 e2
  rw[e1] at e2
  simp at e2
 (try obtain ha:=ha);(try dsimp only);simp only[ha,hu12,hu13,hu14];clear ha hdi hu12 hu13 hu14
 have bp1:=bp0.below h.bel l0
 have br1:=br0.below h.bel br0.lt
 have hin1:=hin.call h.bel
 have hmap1:w'.ownsMap Tryz.prog 178 Rf b n D:=hmap.kept (row:=none) ⟨h.bel.os,h.bel.tape,h.bel.output,h.bel.size,fun k hk _=>h.bel.block k hk⟩ (by simp)
 have f0:=bS.frozen 0
 have f1:=bS.frozen 1
 have f2:=bS.frozen 2
 have s0:=bS.c0
 have s1:=bS.c1
 have s2:=bS.c2
 clear hc hf h c0 c1 c2
 have c2:=bp1.c2
 have hSp:¬ S=p:=by omega
 have hSp2:¬ p=S:=by omega
 have hXS:X≤S:=by have:=hin.siz;omega
 have hXR:X≤R:=by have:=hin.siz;omega
 have hXR':X<R:=by have:=br0.lt;omega
 have hXS':X<S:=by have:=br0.lt;omega
 have hb0:=hmap.lt
 have hbS:b≠S:=fun e=>by omega
 have bS2:=((bS.set 0 (.int .i64 N)).set 1 (.int .i64 M)).set 2 (.slice (some ⟨R,0,none⟩) N N)
 have bR2:=((bR.other (a:=⟨S,0,none⟩) hSR (.int .i64 N)).other (a:=⟨S,1,none⟩) hSR (.int .i64 M)).other (a:=⟨S,2,none⟩) hSR (.slice (some ⟨R,0,none⟩) N N)
 have br2:=((br1.other (a:=⟨S,0,none⟩) (by simp;have:=br0.lt;omega) (.int .i64 N)).other (a:=⟨S,1,none⟩) (by simp;have:=br0.lt;omega) (.int .i64 M)).other (a:=⟨S,2,none⟩) (by simp;have:=br0.lt;omega) (.slice (some ⟨R,0,none⟩) N N)
 have hin2:=((hin1.setCell (p:=⟨S,0,none⟩) hXS (.int .i64 N)).setCell (p:=⟨S,1,none⟩) hXS (.int .i64 M)).setCell (p:=⟨S,2,none⟩) hXS (.slice (some ⟨R,0,none⟩) N N)
 have hmap2:=((hmap1.setCell (a:=⟨S,0,none⟩) hbS (.int .i64 N)).setCell (a:=⟨S,1,none⟩) hbS (.int .i64 M)).setCell (a:=⟨S,2,none⟩) hbS (.slice (some ⟨R,0,none⟩) N N)
 have HB:=Lib.hid bS2
 have HR:=Lib.hid bR2
 have Hr:=Lib.hid br2
 have HI:=Lib.hid hin2
 have HM:=Lib.hid hmap2
 clear bS2 bR2 br2 hin2 hmap2 bS bR br1 hin1 hmap1 bp1 h hmap
 have HD:=Lib.hid (And.intro h2 (And.intro h3 (And.intro h4 h5)))
 clear h2 h3 h4 h5
 go_wp2_with (at_range;refine wpList_range_own _ rfl _ 174 rfl 178 72 place_keyed Tryz.underlying174 Rf b n D rfl HM.out ?_;intro w1 hrg hg hs)
 have bS:=HB.out.grown hg (by simp)
 have bR:=HR.out.grown hg (by simp)
 have br:=Hr.out.grown hg (by simp)
 have hin2:In X w w1:=⟨HI.out.bel.grown hg HI.out.siz (fun k h=>by cases h),Nat.le_trans HI.out.siz hg.size⟩
 simp only[World.size_setCell] at hrg hs
 try go_frame
 try simp only[World.size_setCell]
 obtain⟨r,hr⟩:∃ r,r=w'.heap.size:=⟨_,rfl⟩
 rw[←hr] at hrg hs ⊢
 have hrS:S<r:=by have:=(HB.out.grown hg (by simp)).lt;have:=HB.out.lt;rw[World.size_setCell,World.size_setCell,World.size_setCell] at this;omega
 have hrR:R<r:=by have:=HR.out.lt;rw[World.size_setCell,World.size_setCell,World.size_setCell] at this;omega
 have hXr:X<r:=by omega
 have hbr:b<r:=by omega
 clear hr hg HB HR Hr HI HM s0 s1 s2 f0 f1 f2 c2 HMK br0 bp0 hin hc
 simp only[List.set] at bS
 go_loopw [30] (fun _ wr=>J1 w X S R r b n N M D f wr) (fun _ wr=>wr.rangeLeft b r)
 case atStart=>exact⟨_,_,_,_,hrg,bS,bR,br,hin2,RowsAre.start _ _ _,Cnt.start (fun i k hi hk h0=>(HD.out.2.2.1 i k hi hk).2 h0),fun l hl=>hl⟩
 case round=>
  clear hrg hs bS bR br hin2
  obtain⟨left,cnt,vs,Ls,hrg,bS,bR,br,hin,hrows,hcnt,hle⟩:=hrel
  have HBS:=Lib.hid bS
  have HBR:=Lib.hid bR
  have HBr:=Lib.hid br
  have HIN:=Lib.hid hin
  have HRW:=Lib.hid hrows
  have HC:=Lib.hid hcnt
  have HL:=Lib.hid hle
  clear bS bR br hin hrows hcnt hle
  go_wp2_with (at_next;refine wpList_next_ranges _ rfl _ rfl 178 place_keyed Rf (fun x:Int×Int=>posV x.1 x.2) fracV (fun key kl hk=>by obtain⟨i,k,h,_⟩:=posL_inv hk;exact⟨(i,k),h⟩) (fun v y hv=>by obtain⟨q,h,_⟩:=Rf_inv hv;exact⟨q,h⟩) b r n D left cnt rfl hrg ?_ ?_)
  ·intro hc0 hl0
   have HL0:=Lib.hid hl0
   clear hl0 hc0 hrg HL
   have bS:=HBS.out
   have s2:=bS.c2
   have hls:=bS.lt
   go_wp2_with fail
   have br:=HBr.out
   have bR:=HBR.out
   have hrw:=HRW.out.loose
   have hin:=HIN.out
   clear s2 hls HBS HBR HBr HIN HRW
   go_loopw [55] (fun v55 wq=>J2 w X S R r N M f Ls v55 wq) (fun v55 _=>N - (RowKit.intOf v55).toNat)
   case atStart=>exact⟨0,vs,Nat.zero_le _,rfl,bS,bR,br,hin,by rw[sortedF_zero];exact hrw⟩
   case round=>
    clear bS bR br hrw hin
    obtain⟨k,vs,hk,rfl,bS,bR,br,hin,hrw⟩:=hrel
    by_cases hkN:k<N
    ·have hv:=bR.cell k
     obtain⟨v,hvd⟩:∃ v,v=vs.getD k undef:=⟨_,rfl⟩
     have hvk:vs[k]?=some v:=by rw[hvd,List.getD_eq_getElem?_getD,List.getElem?_eq_getElem (by rw[hrw.len];exact hkN)];rfl
     rw[hvk] at hv
     have hkI:(k:Int)<N:=by omega
     have hk0:(0:Int)≤k:=by omega
     have hlR:=bR.lt
     have hrow:=hrw.row k hkN
     rw[←hvd] at hrow
     have hs1:=sortE_any wr _ _ v _ hrow (by unfold sortedF;rw[if_neg (by omega)];exact Nat.le_trans (HC.out.length hkN) hM)
     have hclip:∀ v2:Value,v2=v→∀ wq,Calls Tryz.prog 109 #[v] wq fun e w'=>e=.returned (clipV v)∧w'=wq:=by
      intro _ _ wq
      rcases hrow with ⟨rfl,_⟩|⟨g,cap,cur,rfl,_,_,h1,_⟩
      ·exact clip_nil wq
      ·exact clip_some _ _ _ h1 wq
     have hvlt:=hrow.lt
     have HCL:=Lib.hid (fun wq=>hclip v rfl wq)
     have HVK:=Lib.hid hvk
     have HVD:=Lib.hid hvd
     have HRW:=Lib.hid hrw
     have HRO:=Lib.hid hrow
     clear hclip hvk hvd hrw hrow
     go_wp2_with (go_at_call 106;refine hs1.mono ?_;rintro e w2 ⟨rfl,es,hperm,hpair,hrow2,hgr⟩)
     have e0:sortedF f M Ls k k=Ls k:=by unfold sortedF;rw[if_neg (Nat.lt_irrefl _)]
     rw[e0] at hperm
     have hes:es=rowOf (f k) M:=HC.out.sorted hkN (fun c _=>HL0.out _) hperm hpair
     clear e0
     subst hes
     have bS2:=bS.grown hgr (fun h=>by have:=(hvlt _ h.symm).1;omega)
     have bR2:=bR.grown hgr (fun h=>by have:=(hvlt _ h.symm).1;omega)
     have br2:=br.grown hgr (fun h=>by have:=(hvlt _ h.symm).1;omega)
     have hin2:In X w w2:=⟨hin.bel.grown hgr hin.siz (fun k h=>by have:=(hvlt _ h).1;omega),Nat.le_trans hin.siz hgr.size⟩
     have hcl2:∀ wq,Calls Tryz.prog 109 #[v] wq fun e w'=>e=.returned (clipV v)∧Below wq.heap.size wq w':=fun wq=>(HCL.out wq).mono fun e w' h=>⟨h.1,h.2 ▸ Below.refl _ _⟩
     obtain⟨cu,hu⟩:∃ cu,cu=clipV v:=⟨_,rfl⟩
     rw[←hu] at hcl2
     have HG:=Lib.hid hgr
     have HR2:=Lib.hid hrow2
     have HU:=Lib.hid hu
     clear hgr hrow2 hu bS bR br hin hv hs1 HCL hperm hpair hlR
     have s2:=bS2.c2
     have hls:=bS2.lt
     have hlR:=bR2.lt
     have h:=In.self w2
     have hc:=h.cell
     refine tfw 6 ?_;refine tset ?_;(repeat (first | refine tfs ?_ |((first |((with_reducible refine flow_pure0 (v:=?_) ?_ ?_ ?_ ?_);rotate_left 1;exact trr;exact trf)|((with_reducible refine flow_pureg (v:=?_) (j:=?_) (b:=?_) ?_ ?_ ?_ ?_);rotate_left 3;exact trr;(focus (intro u w1 hw hd;replace hd:=thn hd;simp[yielded,hd];done))));(focus (intro u w1 hw hd;replace hd:=thn hd;have hc':=hw.cell;go_simp;go_at_call 109;((with_reducible refine(hcl2 _).mono ?_));rintro e w'' ⟨rfl,hb⟩;refine⟨?_,hb⟩;exact rfl)))| fail))
     (try clear hc hf h);intro u w' h ha hdi;replace h:=tsz h.ins;replace ha:=tah ha;have hc:=h.cell;have hf:=h.frozen
     (try obtain ha:=ha);(try dsimp only);simp only[ha];clear ha hdi
     have bS3:=bS2.below h.bel hls
     have bR3:=bR2.below h.bel hlR
     have br3:=br2.below h.bel br2.lt
     have hin3:=hin2.call h.bel
     have hrow3:=(HR2.out.call h.bel).clip
     rw[←HU.out] at hrow3
     have hrw3:=HRW.out.set hkN hrow3 (by rw[←HVD.out];exact gr_bel HG.out h.bel) (fun c hc=>.inl (by rw[←HVD.out];rw[HU.out,clipV_own] at hc;exact hc))
     rw[sortedF_succ] at hrw3
     have c3:=(bR3.cell k).trans HVK.out
     have g3:=bR3.frozen k
     have hl3:=bR3.lt
     have hkw:IntKind.i64.wrap ((k:Int)+1)=((k+1:Nat):Int):=IntWalk.i64_in _ (by omega)
     have bS4:=bS3.other (a:=⟨R,k,none⟩) (fun h=>hSR h.symm) cu
     have bR4:=bR3.set k cu
     have br4:=br3.other (a:=⟨R,k,none⟩) (by simp;omega) cu
     have hin4:=hin3.setCell (p:=⟨R,k,none⟩) hXR cu
     have hrw4:=hrw3.other (a:=⟨R,k,none⟩) (by simp;omega) cu
     have H1:=Lib.hid bS4
     have H2:=Lib.hid bR4
     have H3:=Lib.hid br4
     have H4:=Lib.hid hin4
     have H5:=Lib.hid hrw4
     obtain⟨ua,un,uc,hue⟩:∃ ua un uc,cu=.slice ua un uc:=by
      rw[HU.out]
      rcases HRO.out with ⟨rfl,_⟩|⟨g,cap,cur,rfl,_⟩
      ·exact⟨_,_,_,rfl⟩
      ·exact⟨_,_,_,rfl⟩
     clear bS3 bR3 br3 hin3 hrow3 hrw3 bS4 bR4 br4 hin4 hrw4 bS2 bR2 br2 hin2 hc hf h s2 hls hlR hcl2
     have HUE:=Lib.hid hue
     subst hue
     go_wp2_with fail
     exact⟨⟨k+1,_,by omega,by go_num,H1.out,H2.out,H3.out,H4.out,H5.out⟩,by simp[RowKit.intOf];omega⟩
    ·have hkN':k=N:=by omega
     have f0:=br.frozen 0
     have f1:=br.frozen 1
     have f2:=br.frozen 2
     have b0:=br.c0
     have b1:=br.c1
     have b2:=br.c2
     have s0:=bS.c0
     have s1:=bS.c1
     have s2:=bS.c2
     have hkI:¬ (k:Int)<N:=by omega
     have hrw':RowsAre wr (r+1) false N vs (fun i=>rowOf (f i) M):=by
      refine⟨hrw.len,fun i hi=>?_,hrw.apart⟩
      have:=hrw.row i hi
      unfold sortedF at this
      rwa [if_pos (by omega)] at this
     have hls:=bS.lt
     have hlX:=br.lt
     have br5:=((br.set 0 (.int .i64 N)).set 1 (.int .i64 M)).set 2 (.slice (some ⟨R,0,none⟩) N N)
     have bR5:=((bR.other (a:=⟨X,0,none⟩) (by simp;omega) (.int .i64 N)).other (a:=⟨X,1,none⟩) (by simp;omega) (.int .i64 M)).other (a:=⟨X,2,none⟩) (by simp;omega) (.slice (some ⟨R,0,none⟩) N N)
     have hin5:=((hin.setCell (p:=⟨X,0,none⟩) (by simp) (.int .i64 N)).setCell (p:=⟨X,1,none⟩) (by simp) (.int .i64 M)).setCell (p:=⟨X,2,none⟩) (by simp) (.slice (some ⟨R,0,none⟩) N N)
     have hrw5:=((hrw'.other (a:=⟨X,0,none⟩) (by simp;omega) (.int .i64 N)).other (a:=⟨X,1,none⟩) (by simp;omega) (.int .i64 M)).other (a:=⟨X,2,none⟩) (by simp;omega) (.slice (some ⟨R,0,none⟩) N N)
     have H1:=Lib.hid br5
     have H2:=Lib.hid bR5
     have H3:=Lib.hid hin5
     have H4:=Lib.hid hrw5
     have HK:=Lib.hid hkN'
     clear hkN' hkN hrw hrw' br5 bR5 hin5 hrw5 bS bR br hin HC HL0
     go_wp2_with fail
     obtain⟨W5,hW5⟩:∃ W5,W5=((wr.setCell ⟨X,0,none⟩ (.int .i64 N)).setCell ⟨X,1,none⟩ (.int .i64 M)).setCell ⟨X,2,none⟩ (.slice (some ⟨R,0,none⟩) N N):=⟨_,rfl⟩
     have h1:=H1.out
     have h2:=H2.out
     have h3:=H3.out
     have h4:=H4.out
     rw[←hW5] at h1 h2 h3 h4 ⊢
     clear hW5 H1 H2 H3 H4 f0 f1 f2 b0 b1 b2 s0 s1 s2
     have e0:W5.cell? ⟨X,0,none⟩=some (.int .i64 N):=h1.cell 0
     have e1:W5.cell? ⟨X,1,none⟩=some (.int .i64 M):=h1.cell 1
     have e2:W5.cell? ⟨X,2,none⟩=some (.slice (some ⟨R,0,none⟩) N N):=h1.cell 2
     refine bodyPost_ret (v:=.agg #[.int .i64 N,.int .i64 M,.slice (some ⟨R,0,none⟩) N N]) ?_ rfl ⟨_,rfl,⟨R,vs,rfl,by rw[←HX.out];exact hXR,h2,h4.mono (by omega)⟩,by rw[←HX.out];exact h3.bel⟩
     simp[results,Tryz.results59,go_sem,e0,e1,e2]
  intro i0 k0 c kl y pl w2 cnt2 hkey hlk hR hat hrg2 hlt hgr hsz hen
  obtain⟨i,k,hi,hk,rfl⟩:=HD.out.2.2.2 kl (HL.out kl hlk)
  have hik:i0=(i:Int)∧k0=(k:Int):=by
   have e2:=posL_at (show i<2048 by omega) (show k<2048 by omega)
   have:=place_keyed.inj hkey e2
   simp only[posV,Value.agg.injEq] at this
   have h3:=congrArg Array.toList this
   simp only[List.cons.injEq,Value.int.injEq,true_and,and_true] at h3
   exact h3
  obtain⟨rfl,rfl⟩:=hik
  have hc:c=f i k:=by
   rw[Rf_frac c] at hR
   cases hR
   have h1:=hat (.held 0)
   rw[HD.out.2.1 i k hi hk] at h1
   cases h1;rfl
  subst hc
  have hf0:f i k≠0:=(HD.out.2.2.1 i k hi hk).1 (HL.out _ hlk)
  have bS:=HBS.out.grown hgr (by simp;omega)
  have bR:=HBR.out.grown hgr (by simp;omega)
  have br:=HBr.out.grown hgr (by simp;omega)
  have hin2:In X w w2:=⟨HIN.out.bel.grown hgr HIN.out.siz (fun k h=>by cases h;omega),by rw[hsz];exact HIN.out.siz⟩
  have hrows2:RowsAre w2 (r+1) true N vs Ls:=HRW.out.of_block fun j b hj hb=>hgr.block b ((HRW.out.row j hj).lt b hb).2 (by have:=((HRW.out.row j hj).lt b hb).1;simp;omega)
  obtain⟨A1,A2,A3,A4,A5,hA,hA2⟩:∃ A1 A2 A3 A4 A5,fracV (f i k)=.agg #[.int .u64 A1,.string A2,.bool A3,.int .u64 A4,.string A5]∧fcs (f i k)=[.int .u64 A1,.string A2,.bool A3,.int .u64 A4,.string A5]:=⟨_,_,_,_,_,rfl,rfl⟩
  rw[hA] at hen
  have HA:=Lib.hid hA2
  have HF:=Lib.hid hf0
  have HK:=Lib.hid hlk
  have HRG:=Lib.hid hrg2
  clear hkey hlk hR hat hgr hsz hA hA2 hf0 hrg2 HBS HBR HBr HIN HRW
  have HLT:=Lib.hid (And.intro hlt hrg.left_eq)
  clear hlt hrg
  have HBS:=Lib.hid bS
  have HBR:=Lib.hid bR
  have HBr:=Lib.hid br
  have HIN:=Lib.hid hin2
  have HRW:=Lib.hid hrows2
  clear bS bR br hin2 hrows2
  go_upto_region 7 with fail
  obtain⟨q,hq⟩:∃ q,q=w2.heap.size:=⟨_,rfl⟩
  obtain⟨v,hvd⟩:∃ v,v=vs.getD i undef:=⟨_,rfl⟩
  have hvq:∀ c,v.ownBlock=some c→c<q:=fun c h=>by rw[hq];exact((HRW.out.row i hi).lt c (by rw[←hvd];exact h)).2
  obtain⟨W3,hW3⟩:∃ W3,W3=(w2.alloc (.cells #[.int .i64 i,.int .i64 k] 178)).alloc (.cells #[.int .u64 A1,.string A2,.bool A3,.int .u64 A4,.string A5] 72):=⟨_,rfl⟩
  have hS3:W3.heap.size=q+1+1:=by rw[hW3,World.size_alloc,World.size_alloc,hq]
  have bP:Bx W3 q 178 [.int .i64 i,.int .i64 k]:=by rw[hW3];exact(Bx.new_at w2 _ _ hq).alloc _
  have bV:Bx W3 (q+1) 72 [.int .u64 A1,.string A2,.bool A3,.int .u64 A4,.string A5]:=by rw[hW3];exact Bx.new_at _ _ _ (by rw[World.size_alloc,hq])
  have bS:=(HBS.out.alloc (.cells #[.int .i64 i,.int .i64 k] 178)).alloc (.cells #[.int .u64 A1,.string A2,.bool A3,.int .u64 A4,.string A5] 72);rw[←hW3] at bS
  have bR:=(HBR.out.alloc (.cells #[.int .i64 i,.int .i64 k] 178)).alloc (.cells #[.int .u64 A1,.string A2,.bool A3,.int .u64 A4,.string A5] 72);rw[←hW3] at bR
  have br:=(HBr.out.alloc (.cells #[.int .i64 i,.int .i64 k] 178)).alloc (.cells #[.int .u64 A1,.string A2,.bool A3,.int .u64 A4,.string A5] 72);rw[←hW3] at br
  have hin3:In X w W3:=by rw[hW3];exact(HIN.out.alloc _).alloc _
  have hrow3:RowsAre W3 (r+1) true N vs Ls:=by rw[hW3];exact(HRW.out.alloc _).alloc _
  have hrg3:=(HRG.out.alloc (.cells #[.int .i64 i,.int .i64 k] 178)).alloc (.cells #[.int .u64 A1,.string A2,.bool A3,.int .u64 A4,.string A5] 72)
  rw[←hW3] at hrg3 ⊢
  rw[←hq]
  clear hW3 hq hen HBS HBR HBr HIN HRW HRG
  have hv:=bR.cell i
  rw[show vs[i]?=some v by rw[hvd,List.getD_eq_getElem?_getD,List.getElem?_eq_getElem (by rw[hrow3.len];exact hi)];rfl] at hv
  have hiN:(i:Int)<N:=by omega
  have hi0:(0:Int)≤i:=by omega
  have HRG:=Lib.hid hrg3
  have HRW:=Lib.hid hrow3
  have HVD:=Lib.hid hvd
  have HVQ:=Lib.hid hvq
  have HIN:=Lib.hid hin3
  clear hrg3 hrow3 hvd hin3 hvq
  have hR3:R<W3.heap.size:=bR.lt
  refine wp_region_mixL (fun w'=>w'.cell? ⟨S,2,none⟩=some (.slice (some ⟨R,0,none⟩) N N)∧w'.cell? ⟨q,0,none⟩=some (.int .i64 i)∧w'.cell? ⟨q,1,none⟩=some (.int .i64 k)∧w'.cell? ⟨q+1,0,none⟩=some (.int .u64 A1)∧w'.cell? ⟨q+1,1,none⟩=some (.string A2)∧w'.cell? ⟨q+1,2,none⟩=some (.bool A3)∧w'.cell? ⟨q+1,3,none⟩=some (.int .u64 A4)∧w'.cell? ⟨q+1,4,none⟩=some (.string A5)∧w'.cell? ⟨R,i,none⟩=some v) 17 [(0,true),(1,true),(2,true),(3,true),(4,true),(5,true),(6,true),(7,true),(8,true),(9,true),(10,true),(11,true),(12,true),(13,true),(14,false),(15,false),(16,true),(17,false)] (by kernel_rfl) (by kernel_rfl) (by kernel_rfl) (by kernel_rfl) (by kernel_rfl) (by kernel_rfl) (by kernel_rfl) (by kernel_rfl) (fun _ _ d _ _ h=>by cases d <;> exact h) ?_ ?_
  ·exact⟨bS.c2,bP.c0,bP.c1,bV.c0,bV.c1,bV.c2,bV.c3,bV.c4,hv⟩
  (repeat (apply mixL_take;(focus rfl);(focus rfl);(focus (intro w' hw';obtain⟨s2,p0,p1,v0,v1,v2,v3,v4,hrv⟩:=hw';go_simp;exact rfl));refine tput ?_))
  have bP4:=bP.drew
  have bV4:=bV.drew
  have bS4:=bS.drew
  have bR4:=bR.drew
  have br4:=br.drew
  have hin4:=HIN.out.drew
  have hrow4:RowsAre W3.drew (r+1) true N vs Ls:=HRW.out.of_block fun _ _ _ _=>rfl
  have hrg4:W3.drew.ranges Tryz.prog 178 Rf b r n D (fun z=>left z && !z.sameKey (posL ↑i ↑k)) cnt2:=HRG.out
  have hS4:W3.drew.heap.size=q+1+1:=hS3
  have HIN:=Lib.hid hin4
  have HRW:=Lib.hid hrow4
  have HRG:=Lib.hid hrg4
  clear bP bV bS bR br hv hin4 hrow4 hrg4 hS3 hR3
  generalize W3.drew=W4 at *
  have hvi:vs[i]?=some v:=by rw[HVD.out,List.getD_eq_getElem?_getD,List.getElem?_eq_getElem (by rw[HRW.out.len];exact hi)];rfl
  have HVI:=Lib.hid hvi
  clear hvi
  (apply mixL_run;(focus rfl);(focus rfl);intro K hK;go_simp)
  refine hK _ _ (fun _=>⟨(bS4.alloc _).c2,(bP4.alloc _).c0,(bP4.alloc _).c1,(bV4.alloc _).c0,(bV4.alloc _).c1,(bV4.alloc _).c2,(bV4.alloc _).c3,(bV4.alloc _).c4,((bR4.alloc _).cell i).trans HVI.out⟩) ?_
  clear hK K
  have bP:=bP4.alloc (.cells #[.int .i64 k,.int .u64 A1,.string A2,.bool A3,.int .u64 A4,.string A5] 98)
  have bV:=bV4.alloc (.cells #[.int .i64 k,.int .u64 A1,.string A2,.bool A3,.int .u64 A4,.string A5] 98)
  have bS:=bS4.alloc (.cells #[.int .i64 k,.int .u64 A1,.string A2,.bool A3,.int .u64 A4,.string A5] 98)
  have bR:=bR4.alloc (.cells #[.int .i64 k,.int .u64 A1,.string A2,.bool A3,.int .u64 A4,.string A5] 98)
  have br:=br4.alloc (.cells #[.int .i64 k,.int .u64 A1,.string A2,.bool A3,.int .u64 A4,.string A5] 98)
  have hin5:=HIN.out.alloc (.cells #[.int .i64 k,.int .u64 A1,.string A2,.bool A3,.int .u64 A4,.string A5] 98)
  have hrow5:=HRW.out.alloc (.cells #[.int .i64 k,.int .u64 A1,.string A2,.bool A3,.int .u64 A4,.string A5] 98)
  have hrg5:=HRG.out.alloc (.cells #[.int .i64 k,.int .u64 A1,.string A2,.bool A3,.int .u64 A4,.string A5] 98)
  have bE:Bx (W4.alloc (.cells #[.int .i64 k,.int .u64 A1,.string A2,.bool A3,.int .u64 A4,.string A5] 98)) (q+1+1) 98 _:=Bx.new_at W4 #[.int .i64 k,.int .u64 A1,.string A2,.bool A3,.int .u64 A4,.string A5] 98 hS4.symm
  have hS5:(W4.alloc (.cells #[.int .i64 k,.int .u64 A1,.string A2,.bool A3,.int .u64 A4,.string A5] 98)).heap.size=q+1+1+1:=by rw[World.size_alloc,hS4]
  try rw[hS4]
  clear bP4 bV4 bS4 bR4 br4 HIN HRW HRG hS4
  generalize W4.alloc (.cells #[.int .i64 k,.int .u64 A1,.string A2,.bool A3,.int .u64 A4,.string A5] 98)=W5 at *
  have hlen:(Ls i).length≤2048:=Nat.le_trans (HC.out.length hi) hM
  have hown:=(hrow5.row i hi).toOwn
  rw[←HVD.out] at hown
  have hvlt:=hown.lt
  have hrW:=hrg5.lt
  refine mixL_list rfl (wpList_append_own_at _ rfl (.tmp 44) (.tmp 49) 96 rfl (r+1) 98 ie (.agg #[.int .i64 0,.int .u64 0,.string ⟨#[]⟩,.bool false,.int .u64 0,.string ⟨#[]⟩]) 6 64 Tryz.underlying96 he0 he1 he2 he3 rfl (by decide) v _ _ rfl hown ⟨q+1+1,0,none⟩ 1 1 [.int .i64 k,.int .u64 A1,.string A2,.bool A3,.int .u64 A4,.string A5] rfl rfl ?c1 ?c2 ?c3 ?c4 ?c5 ?_)
  case c1=>
   intro j u hj
   have e:(⟨q+1+1,0,none⟩:Addr).add j=⟨q+1+1,j,none⟩:=by unfold Addr.add;split <;> simp_all
   rw[e,bE.cell j];exact hj
  case c2=>intro u hu;simp at hu;rcases hu with rfl | rfl | rfl | rfl | rfl | rfl <;> rfl
  case c3=>simp only[maxLen];omega
  case c4=>omega
  case c5=>omega
  intro v' w6 hown6 hgr hnil hat
  have bS6:=bS.grown hgr (fun h=>by have:=(hvlt _ h.symm).1;omega)
  have bR6:=bR.grown hgr (fun h=>by have:=(hvlt _ h.symm).1;omega)
  have br6:=br.grown hgr (fun h=>by have:=(hvlt _ h.symm).1;omega)
  have hin6:In X w w6:=⟨hin5.bel.grown hgr hin5.siz (fun k h=>by have:=(hvlt _ h).1;omega),Nat.le_trans hin5.siz hgr.size⟩
  have hrow6:RowsAre w6 (r+1) true N (vs.set i v') (updF Ls i (Ls i ++ [(k,f i k)])):=by
   refine hrow5.set hi ?_ (by rw[←HVD.out];exact hgr) fun b' hb'=>?_
   ·refine .own ?_
    rw[List.length_append,List.flatMap_append]
    have e:List.flatMap ecs [(k,f i k)]=[.int .i64 k,.int .u64 A1,.string A2,.bool A3,.int .u64 A4,.string A5]:=by
     simp only[List.flatMap_cons,List.flatMap_nil,List.append_nil,ecs,HA.out]
    rw[e];exact hown6
   ·rw[←HVD.out]
    rcases hat with h | h
    ·exact .inl (h ▸ hb')
    ·rw[h] at hb';cases hb';exact .inr (Nat.le_refl _)
  have hrg6:=hrg5.kept hgr (fun h=>by have h1:=(hvlt _ h.symm).1;omega) (fun h=>by have:=(hvlt _ h.symm).1;omega)
  have hcnt6:=HC.out.step hi hk HF.out HK.out (lf':=fun a c=>(fun z=>left z && !z.sameKey (posL (i:Int) (k:Int))) (posL (a:Int) (c:Int))) (fun a c ha hc=>by
   simp only
   congr 2
   by_cases he:a=i∧c=k
   ·obtain⟨rfl,rfl⟩:=he
    rw[Go.WideAt.sameKey_self (place_keyed.key (posL_at (show a<2048 by omega) (show c<2048 by omega)))];simp
   ·rw[Go.Maps.sameKey_ne (fun e=>he (posL_inj (by omega) (by omega) (by omega) (by omega) e))];simp[he])
  have bP6:=bP.grown hgr (fun h=>by have:=HVQ.out _ h.symm;omega)
  have bV6:=bV.grown hgr (fun h=>by have:=HVQ.out _ h.symm;omega)
  refine And.intro (fun _=>⟨bS6.c2,bP6.c0,bP6.c1,bV6.c0,bV6.c1,bV6.c2,bV6.c3,bV6.c4,(bR6.cell i).trans HVI.out⟩) ?_
  have hrlt:R<w6.heap.size:=bR6.lt
  obtain⟨g9,c9,rfl⟩:∃ g9 c9,v'=.slice (some ⟨g9,0,none⟩) ((Ls i).length+1) c9:=by
   rcases hown6.2 with ⟨_,hn⟩|⟨g9,c9,cur,h9,_⟩
   ·omega
   ·exact⟨g9,c9,h9⟩
  have H1:=Lib.hid hrow6
  have H2:=Lib.hid hrg6
  have H3:=Lib.hid hcnt6
  have H4:=Lib.hid bR6
  have H5:=Lib.hid bS6
  have H6:=Lib.hid br6
  have H7:=Lib.hid hin6
  clear hrow6 hrg6 hcnt6 bS6 br6 hin6 bP6 bV6 bP bV bS bR br hin5 hrow5 hrg5 bE hS5 hgr hnil hat hown6 hvlt hrW hown
  (try simp only[Act.put]);(try simp only[List.setIfInBounds_toArray]);(try simp only[List.set])
  (repeat (apply mixL_take;(focus rfl);(focus rfl);(focus (intro w' hw';obtain⟨s2,p0,p1,v0,v1,v2,v3,v4,hrv⟩:=hw';go_simp;exact rfl));refine tput ?_))
  have hfz:=bR6.frozen i
  have hcl:=(bR6.cell i).trans HVI.out
  clear bR6
  (apply mixL_run;(focus rfl);(focus rfl);intro K hK;go_simp)
  refine hK _ _ (fun h=>absurd h (by decide)) ?_
  clear hK K
  refine mixL_done ?_
  go_wp2_with fail
  have hgs:=gr_cell w6 ⟨R,i,none⟩ (.slice (some ⟨g9,0,none⟩) ((Ls i).length+1) c9)
  have hrg7:=H2.out.kept hgs (by simp;omega) (by simp;omega)
  refine⟨⟨_,_,_,_,hrg7,H5.out.other (by simp;omega) _,H4.out.set i _,H6.out.other (by simp;omega) _,H7.out.setCell (by simp;omega) _,H1.out.other (by simp;omega) _,H3.out,fun l hl=>HL.out l (by rw[Bool.and_eq_true] at hl;exact hl.1)⟩, ?_⟩
  rw[hrg7.left_eq,HLT.out.2]
  exact HLT.out.1
end Gus
end
