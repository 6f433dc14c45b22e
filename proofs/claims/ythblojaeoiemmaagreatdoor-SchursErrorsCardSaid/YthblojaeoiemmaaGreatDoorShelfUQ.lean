/- Proved here: parts of the proof: ShelfU KTxt KTxtB KVec KVecB. Conditions: those that each theorem states. -/
import Derived.Shelf.Small.Bits
import Derived.Shelf.LaysM
import Derived.Shelf.Strconv.Itoa0
import Derived.Shelf.Strconv.Itoa1
import Derived.Shelf.Strconv.Itoa2
import Derived.Shelf.Strconv.Itoa3
import Derived.Test.YthblojaeoiemmaaGreatDoorProg
import Derived.Test.YthblojaeoiemmaaGreatDoorKSpGQ
section
namespace Go.Proofs
open Go.Shelf
def Tryz.lays283_ren:Go.Shelf.Ren:=⟨fun | 283=>209 | n=>n,fun | 3=>3 | 9=>9 | 4=>4 | n=>n,fun | n=>n⟩
theorem Tryz.lays283:Go.Proofs.Lays.n283 Tryz.prog Tryz.lays283_ren:={
 mixed:=by kernel_rfl
 f283:=Tryz.func209.trans (congrArg some (by kernel_rfl))
 t3:=Tryz.underlying3
 a3:=Tryz.isAgg3
 z3:=Tryz.sizeOf3
 v3:=Tryz.zeroValue3
 t4:=Tryz.underlying4
 a4:=Tryz.isAgg4
 z4:=Tryz.sizeOf4
 v4:=Tryz.zeroValue4
 t9:=Tryz.underlying9
 a9:=Tryz.isAgg9
 z9:=Tryz.sizeOf9
 v9:=Tryz.zeroValue9 }
open Go.Lib in
theorem Tryz.internal_strconv_small (i:Nat) (h:i<100) (w:World) :
  Calls Tryz.prog 209 #[.int .i64 i] w fun e w'=>e=.returned (.string ⟨(Lib.decDigits i).toArray⟩)∧w'=w:=Any.internal_strconv_small Tryz.lays283 i h w
end Go.Proofs
end
section
namespace Gus
open Go Go.RowKit Go.Proofs
def natT (n:Nat):List UInt8:=Lib.decDigits n
def intT (z:Int):List UInt8:=if z<0 then 45 :: natT z.natAbs else natT z.natAbs
def ratT (q:Rat):List UInt8:=if q.den=1 then intT q.num else intT q.num ++ 47 :: natT q.den
abbrev strV (l:List UInt8):Value:=.string ⟨l.toArray⟩
theorem fuint_small (i:Nat) (hi:i<100) (w:World):Calls Tryz.prog 175 #[.int .u64 i,.int .i64 10] w fun e w'=>e=.returned (strV (natT i))∧w'=w:=by
 have h1:=fun W=>Tryz.internal_strconv_small i hi W
 unfold natT
 generalize Lib.decDigits i=l at *
 have hiI:(i:Int)<100:=by omega
 have hw:IntKind.i64.wrap (i:Int)=i:=IntWalk.i64_in _ (by omega)
 go_enter Tryz.func175,Tryz.ntmps175
 go_wp2_with (first |(go_at_call 209;(with_reducible refine(h1 _).mono ?_);rintro e w' ⟨rfl,rfl⟩)| go_in)
 go_ret
 exact⟨rfl,rfl⟩
def NatTx (C:World→Prop) (n:Nat):Prop:=∀ W,C W→Calls Tryz.prog 149 #[natV n] W fun e w'=>e=.returned (strV (natT n))∧Below W.heap.size W w'
theorem natText_small (n:Nat) (hn:n<100) (w:World):Calls Tryz.prog 149 #[natV n] w fun e w'=>e=.returned (strV (natT n))∧Below w.heap.size w w':=by
 have h1:=fun W=>fuint_small n hn W
 have e1:lo n=n:=lo_small (by omega)
 have e2:bg n=⟨#[]⟩:=bg_small (by omega)
 unfold natV
 rw[e1,e2]
 generalize natT n=l at *
 clear e1 e2
 go_enter Tryz.func149,Tryz.ntmps149
 go_wp2_with (go_at_call 175;(with_reducible refine(h1 _).mono ?_);rintro e w' ⟨rfl,rfl⟩)
 go_ret
 exact⟨rfl,by exact tfin⟩
def Kept (C:World→Prop):Prop:=∀ W W',C W→Below W.heap.size W W'→C W'
theorem bcat (a b:List UInt8):(⟨a.toArray⟩:ByteArray) ++ ⟨b.toArray⟩=⟨(a ++ b).toArray⟩:=by
 apply ByteArray.ext
 simp
theorem str_eq {a b:ByteArray} (h:a=b):Ending.returned (.string a)=.returned (.string b):=by rw[h]
theorem natT_small {n:Nat} (h:n<100):(natT n).length≤2:=by
 unfold natT
 rw[Lib.decDigits]
 split
 ·simp
 ·rw[Lib.decDigits,dif_pos (by omega)];simp
theorem intText_any {C:World→Prop} (hC:Kept C) (z:Int) (h:NatTx C z.natAbs) (hl:(natT z.natAbs).length≤1099511627776) (w:World) (hw:C w):Calls Tryz.prog 148 #[intV z] w fun e w'=>e=.returned (strV (intT z))∧Below w.heap.size w w':=by
 have h1:∀ o,Calls Tryz.prog 149 #[natV z.natAbs] (w.alloc o) fun e w'=>e=.returned (strV (natT z.natAbs))∧Below (w.alloc o).heap.size (w.alloc o) w':=fun o=>h _ (hC _ _ hw ((Below.refl _ _).alloc (Nat.le_refl _) o))
 unfold intT intV
 unfold natV at h1
 by_cases hz:z<0
 ·rw[decide_eq_true hz,if_pos hz]
  generalize natT z.natAbs=l at *
  have hl1:1+l.length≤9223372036854775807:=by omega
  clear h hw hC hz
  go_enter Tryz.func148,Tryz.ntmps148
  go_wp2_with fail
  (((with_reducible refine(h1 _).mono ?_));rintro e w' ⟨rfl,hb⟩;have h:=tsz ((In.self _).call hb);clear hb;have hc:=h.cell;have hf:=h.frozen)
  go_wp2_with fail
  go_ret
  exact⟨str_eq (bcat [45] l),by exact tfin⟩
 ·rw[decide_eq_false hz,if_neg hz]
  generalize natT z.natAbs=l at *
  clear h hw hC hz
  go_enter Tryz.func148,Tryz.ntmps148
  go_wp2_with fail
  (((with_reducible refine(h1 _).mono ?_));rintro e w' ⟨rfl,hb⟩;have h:=tsz ((In.self _).call hb);clear hb;have hc:=h.cell;have hf:=h.frozen)
  go_wp2_with fail
  go_ret
  exact⟨rfl,by exact tfin⟩
theorem intT_length (z:Int):(intT z).length≤(natT z.natAbs).length+1:=by
 unfold intT
 split <;> simp
theorem ratText_any {C:World→Prop} (hC:Kept C) (q:Rat) (h1:NatTx C q.num.natAbs) (h2:NatTx C q.den) (hl:(natT q.num.natAbs).length≤549755813888) (hl2:(natT q.den).length≤549755813888) (hd:Wl q.den) (w:World) (hw:C w) :
  Calls Tryz.prog 98 #[fracV q] w fun e w'=>e=.returned (strV (ratT q))∧Below w.heap.size w w':=by
 have hwh:=isWhole_any q
 have hi:=fun W (hW:C W)=>intText_any hC q.num h1 (by omega) W hW
 have hlI:=intT_length q.num
 unfold ratT
 by_cases hq:q.den=1
 ·rw[decide_eq_true hq] at hwh
  rw[if_pos hq]
  have hin:∀ W,Below w.heap.size w W→C W:=fun W hb=>hC _ _ hw hb
  generalize intT q.num=l at *
  clear h1 h2 hl hl2 hd hw hC hq hlI
  go_enter Tryz.func98,Tryz.ntmps98
  go_wp2_with fail
  (((with_reducible refine(hwh _).mono ?_));rintro e w' ⟨rfl,hb⟩;have h:=tsz ((In.self _).call hb);clear hb;have hc:=h.cell;have hf:=h.frozen)
  have hz0:w.heap.size<w'.heap.size:=(by have:=h.siz;omega)
  go_wp2_with fail
  ((with_reducible refine(hi _ (hin _ ?_)).mono ?_))
  ·exact(h.out ((In.self w).alloc _) (Nat.le_succ _)).bel
  rintro e w2 ⟨rfl,hb⟩
  replace h:=h.call hb
  clear hb hc hf
  go_wp2_with fail
  go_ret
  exact⟨rfl,by exact tfin⟩
 ·rw[decide_eq_false hq] at hwh
  rw[if_neg hq]
  have hde:=fden_any q hd
  have hlI2:(intT q.num).length≤549755813889:=by omega
  have hin:∀ W,Below w.heap.size w W→C W:=fun W hb=>hC _ _ hw hb
  have hnt:=fun W (hW:C W)=>h2 W hW
  generalize intT q.num=l at *
  generalize natT q.den=l2 at *
  clear h1 h2 hl hd hw hC hq
  go_enter Tryz.func98,Tryz.ntmps98
  go_wp2_with fail
  (((with_reducible refine(hwh _).mono ?_));rintro e w' ⟨rfl,hb⟩;have h:=tsz ((In.self _).call hb);clear hb;have hc:=h.cell;have hf:=h.frozen)
  have hz0:w.heap.size<w'.heap.size:=(by have:=h.siz;omega)
  go_wp2_with fail
  have hS:∀ W,St w' W→C W:=fun W hs=>hin _ ((h.out ((In.self w).alloc _) (Nat.le_succ _)).call hs).bel
  have hl1:¬ 9223372036854775807<l.length+1:=by omega
  have hl3:¬ 9223372036854775807<l.length+1+l2.length:=by omega
  clear hin
  have bx:=(Bx.new w #[.int .u64 (lo q.num.natAbs),.string (bg q.num.natAbs),.bool (decide (q.num<0)),.int .u64 (lo (q.den - 1)),.string (bg (q.den - 1))] 72).below h.bel (Nat.lt_succ_self _)
  have x0:=bx.c0
  have x1:=bx.c1
  have x2:=bx.c2
  have x3:=bx.c3
  have x4:=bx.c4
  have hin2:In w.heap.size w w':=h.out ((In.self w).alloc _) (Nat.le_succ _)
  clear h hc hf bx
  refine tfw 8 ?_;refine tset ?_;(repeat (first | refine tfs ?_ |((first |((with_reducible refine flow_pure0 (v:=?_) ?_ ?_ ?_ ?_);rotate_left 1;exact trr;exact trf)|((with_reducible refine flow_pureg (v:=?_) (j:=?_) (b:=?_) ?_ ?_ ?_ ?_);rotate_left 3;exact trr;(focus (intro u w1 hw hd;replace hd:=thn hd;simp[yielded,hd];done))));(focus (intro u w1 hw hd;replace hd:=thn hd;have hc':=hw.cell;go_simp;first |(go_at_call 148;((with_reducible refine(hi _ (hS _ hw)).mono ?_));rintro e w'' ⟨rfl,hb⟩;refine⟨?_,hb⟩;exact rfl)|(go_at_call 94;((with_reducible refine(hde _).mono ?_));rintro e w'' ⟨rfl,hb⟩;refine⟨?_,hb⟩;exact rfl)|(go_at_call 149;((with_reducible refine(hnt _ (hS _ hw)).mono ?_));rintro e w'' ⟨rfl,hb⟩;refine⟨?_,hb⟩;exact rfl))))| fail))
  (try clear hc hf h);intro u w' h ha hdi;replace h:=tsz h.ins;replace ha:=tah ha;have hc:=h.cell;have hf:=h.frozen
  (try obtain ha:=ha);(try dsimp only);simp only[ha];clear ha hdi
  have hin3:=hin2.call h.bel
  clear h hc hf
  go_wp2_with fail
  go_ret
  exact⟨str_eq (by rw[show(⟨#[47]⟩:ByteArray)=⟨[47].toArray⟩ from rfl,bcat,bcat,List.append_assoc];rfl),hin3.bel⟩
end Gus
end
section
namespace Gus
open Go Go.RowKit Go.Proofs
def RatTx (w0:World) (q:Rat):Prop:=∀ W,In w0.heap.size w0 W→Calls Tryz.prog 98 #[fracV q] W fun e w'=>e=.returned (strV (ratT q))∧Below W.heap.size W w'
end Gus
end
section
namespace Gus
open Go Go.RowKit Go.Proofs
structure FEl (w:World) (b o:Nat) (q:Rat):Prop where
 cells:∀ j,j<5→w.cell? ⟨b,o+j,none⟩=(fcs q)[j]?
 typed:∃ cur fz,w.heap[b]?=some (Obj.cells cur 72 fz)
instance (w:World) (b o:Nat) (q:Rat):CoeFun (FEl w b o q) (fun _=>∀ j,j<5→w.cell? ⟨b,o+j,none⟩=(fcs q)[j]?):=⟨FEl.cells⟩
def VecAt (w:World) (v:Value) (qs:List Rat):Prop:=
 ∃ a cap,v=.slice a qs.length cap∧∀ i,i<qs.length→∃ b off,a=some ⟨b,off,none⟩∧b<w.heap.size∧FEl w b (off+i*5) (qs.getD i 0)
theorem VecAt.below {N:Nat} {w w':World} {v:Value} {qs:List Rat} (h:VecAt w v qs) (hN:w.heap.size≤N) (hb:Below N w w'):VecAt w' v qs:=by
 obtain⟨a,cap,h1,h2⟩:=h
 refine⟨a,cap,h1,fun i hi=>?_⟩
 obtain⟨b,off,h3,h4,h5⟩:=h2 i hi
 refine⟨b,off,h3,Nat.lt_of_lt_of_le h4 hb.size,fun j hj=>?_,by rw[hb.block b (Nat.lt_of_lt_of_le h4 hN)];exact h5.typed⟩
 rw[hb.cell (p:=⟨b,off+i*5+j,none⟩) (Nat.lt_of_lt_of_le h4 hN)]
 exact h5 j hj
theorem VecAt.call {w w':World} {v:Value} {qs:List Rat} (h:VecAt w v qs) (hb:Below w.heap.size w w'):VecAt w' v qs:=h.below (Nat.le_refl _) hb
theorem VecAt.nil (w:World) (a:Option Addr) (cap:Nat):VecAt w (.slice a 0 cap) []:=⟨a,cap,rfl,fun _ h=>absurd h (Nat.not_lt_zero _)⟩
theorem VecAt.at {w:World} {v:Value} {qs:List Rat} (h:VecAt w v qs) {i:Nat} (hi:i<qs.length) :
  ∃ b off cap A1 A2 A3 A4 A5,v=.slice (some ⟨b,off,none⟩) qs.length cap∧b<w.heap.size∧fcs (qs.getD i 0)=[.int .u64 A1,.string A2,.bool A3,.int .u64 A4,.string A5]∧fracV (qs.getD i 0)=.agg #[.int .u64 A1,.string A2,.bool A3,.int .u64 A4,.string A5] ∧
   w.cell? ⟨b,off+i*5,none⟩=some (.int .u64 A1)∧w.cell? ⟨b,off+i*5+1,none⟩=some (.string A2)∧w.cell? ⟨b,off+i*5+2,none⟩=some (.bool A3)∧w.cell? ⟨b,off+i*5+3,none⟩=some (.int .u64 A4)∧w.cell? ⟨b,off+i*5+4,none⟩=some (.string A5):=by
 obtain⟨a,cap,h1,h2⟩:=h
 obtain⟨b,off,h3,h4,h5⟩:=h2 i hi
 subst h3
 exact⟨b,off,cap,_,_,_,_,_,h1,h4,rfl,rfl,h5 0 (by decide),h5 1 (by decide),h5 2 (by decide),h5 3 (by decide),h5 4 (by decide)⟩
theorem VecAt.grown {w w':World} {v:Value} {qs:List Rat} {g:Nat} {cur:Array Value} {T:TypeId} {fz:Nat×Nat} (h:VecAt w v qs) (hg:w.heap[g]?=some (Obj.cells cur T fz)) (hT:T≠72) (hgr:w.grownBy w' (some g)):VecAt w' v qs:=by
 obtain⟨a,cap,h1,h2⟩:=h
 refine⟨a,cap,h1,fun i hi=>?_⟩
 obtain⟨b,off,h3,h4,h5⟩:=h2 i hi
 have hne:some b≠some g:=fun e=>by
  injection e with e
  subst e
  obtain⟨cur2,fz2,h6⟩:=h5.typed
  rw[hg] at h6
  injection h6 with h7
  injection h7 with _ h8
  exact hT h8
 have hbk:=hgr.block b h4 hne
 refine⟨b,off,h3,Nat.lt_of_lt_of_le h4 hgr.size,fun j hj=>?_,by rw[hbk];exact h5.typed⟩
 have:=h5 j hj
 unfold World.cell? at this ⊢
 rw[hbk];exact this
theorem VecAt.shape {w:World} {v:Value} {qs:List Rat} (h:VecAt w v qs):∃ a cap,v=.slice a qs.length cap:=let ⟨a,cap,h1,_⟩:=h;⟨a,cap,h1⟩
theorem fcl_at:∀ (qs:List Rat) (i j:Nat),i<qs.length→j<5→(fcl qs)[i*5+j]?=(fcs (qs.getD i 0))[j]?
 | [],i,j,h,_=>absurd h (Nat.not_lt_zero _)
 | q :: qs,0,j,_,hj=>by
  unfold fcl
  rw[List.flatMap_cons,Nat.zero_mul,Nat.zero_add,List.getElem?_append_left (by exact hj)];rfl
 | q :: qs,i+1,j,h,hj=>by
  have:=fcl_at qs i j (Nat.lt_of_succ_lt_succ h) hj
  unfold fcl at this ⊢
  rw[List.flatMap_cons,List.getElem?_append_right (by show 5≤_;omega),show(i+1)*5+j - (fcs q).length=i*5+j by show(i+1)*5+j - 5=_;omega,this];rfl
abbrev VBx (w:World) (g:Nat) (qs:List Rat):Prop:=Bx w g 72 (fcl qs)
theorem VBx.at {w:World} {g:Nat} {qs:List Rat} (h:VBx w g qs) (n:Nat) (hn:n=qs.length) (cap:Nat):VecAt w (.slice (some ⟨g,0,none⟩) n cap) qs:=by
 subst hn
 exact⟨_,_,rfl,fun i hi=>⟨g,0,rfl,h.lt,fun j hj=>by rw[h.cell,Nat.zero_add,fcl_at qs i j hi hj],_,_,h⟩⟩
theorem fcl_set:∀ (qs:List Rat) (i:Nat) (q:Rat),i<qs.length→(((((fcl qs).set (i*5) (.int .u64 (lo q.num.natAbs))).set (i*5+1) (.string (bg q.num.natAbs))).set (i*5+2) (.bool (decide (q.num<0)))).set (i*5+3) (.int .u64 (lo (q.den - 1)))).set (i*5+4) (.string (bg (q.den - 1)))=fcl (qs.set i q)
 | [],i,q,h=>absurd h (Nat.not_lt_zero _)
 | p :: qs,0,q,_=>rfl
 | p :: qs,i+1,q,h=>by
  have ih:=fcl_set qs i q (Nat.lt_of_succ_lt_succ h)
  unfold fcl at ih ⊢
  rw[List.set_cons_succ,List.flatMap_cons,List.flatMap_cons,←ih]
  have e:(i+1)*5=i*5+1+1+1+1+1:=by omega
  rw[e]
  rfl
theorem VBx.set {w:World} {g:Nat} {qs:List Rat} (h:VBx w g qs) (i:Nat) (q:Rat) (hi:i<qs.length) :
  VBx (((((w.setCell ⟨g,i*5,none⟩ (.int .u64 (lo q.num.natAbs))).setCell ⟨g,i*5+1,none⟩ (.string (bg q.num.natAbs))).setCell ⟨g,i*5+2,none⟩ (.bool (decide (q.num<0)))).setCell ⟨g,i*5+3,none⟩ (.int .u64 (lo (q.den - 1)))).setCell ⟨g,i*5+4,none⟩ (.string (bg (q.den - 1)))) g (qs.set i q):=by
 have h5:=((((Bx.set h (i*5) (.int .u64 (lo q.num.natAbs))).set (i*5+1) (.string (bg q.num.natAbs))).set (i*5+2) (.bool (decide (q.num<0)))).set (i*5+3) (.int .u64 (lo (q.den - 1)))).set (i*5+4) (.string (bg (q.den - 1)))
 rw[fcl_set qs i q hi] at h5
 exact h5
theorem VBx.cells {w:World} {g:Nat} {qs:List Rat} (h:VBx w g qs) {i:Nat} (hi:i<qs.length):∃ A1 A2 A3 A4 A5,fracV (qs.getD i 0)=.agg #[.int .u64 A1,.string A2,.bool A3,.int .u64 A4,.string A5] ∧
  w.cell? ⟨g,i*5,none⟩=some (.int .u64 A1)∧w.cell? ⟨g,i*5+1,none⟩=some (.string A2)∧w.cell? ⟨g,i*5+2,none⟩=some (.bool A3)∧w.cell? ⟨g,i*5+3,none⟩=some (.int .u64 A4)∧w.cell? ⟨g,i*5+4,none⟩=some (.string A5) ∧
  w.frozen? ⟨g,i*5,none⟩=false∧w.frozen? ⟨g,i*5+1,none⟩=false∧w.frozen? ⟨g,i*5+2,none⟩=false∧w.frozen? ⟨g,i*5+3,none⟩=false∧w.frozen? ⟨g,i*5+4,none⟩=false:=by
 have hc:=fun j hj=>(h.cell (i*5+j)).trans (fcl_at qs i j hi hj)
 exact⟨_,_,_,_,_,rfl,hc 0 (by decide),hc 1 (by decide),hc 2 (by decide),hc 3 (by decide),hc 4 (by decide),h.frozen _,h.frozen _,h.frozen _,h.frozen _,h.frozen _⟩
theorem In.put5 {N:Nat} {W0 w:World} {g:Nat} (h:In N W0 w) (hg:N≤g) (i:Nat) (q:Rat) :
  In N W0 (((((w.setCell ⟨g,i*5,none⟩ (.int .u64 (lo q.num.natAbs))).setCell ⟨g,i*5+1,none⟩ (.string (bg q.num.natAbs))).setCell ⟨g,i*5+2,none⟩ (.bool (decide (q.num<0)))).setCell ⟨g,i*5+3,none⟩ (.int .u64 (lo (q.den - 1)))).setCell ⟨g,i*5+4,none⟩ (.string (bg (q.den - 1)))):=
 ((((h.setCell (p:=⟨g,i*5,none⟩) hg _).setCell (p:=⟨g,i*5+1,none⟩) hg _).setCell (p:=⟨g,i*5+2,none⟩) hg _).setCell (p:=⟨g,i*5+3,none⟩) hg _).setCell (p:=⟨g,i*5+4,none⟩) hg _
theorem info_frac5:(Tryz.prog.info? 72).map (fun i=>(i.zero,i.size,i.bytes))=some (some (.agg #[.int .u64 0,.string ⟨#[]⟩,.bool false,.int .u64 0,.string ⟨#[]⟩]),5,56):=by kernel_rfl
theorem made_frac (L:Nat):madeCells (Value.agg #[.int .u64 0,.string ⟨#[]⟩,.bool false,.int .u64 0,.string ⟨#[]⟩]).cells (L*5)=(fcl (List.replicate L 0)).toArray:=by
 apply Array.ext
 ·simp[madeCells,fcl_length]
 ·intro t h1 h2
  have ht:t<L*5:=by simpa[madeCells] using h1
  have h3:t / 5<(List.replicate L (0:Rat)).length:=by simp;omega
  have h4:t % 5<5:=Nat.mod_lt _ (by decide)
  have h5:=fcl_at (List.replicate L (0:Rat)) (t / 5) (t % 5) h3 h4
  rw[show t / 5*5+t % 5=t by omega] at h5
  have e0:(List.replicate L (0:Rat)).getD (t / 5) 0=0:=by
   rw[List.getD_eq_getElem?_getD,List.getElem?_replicate];split <;> rfl
  rw[e0] at h5
  have h6:t<(fcl (List.replicate L (0:Rat))).length:=by simpa using h2
  rw[List.getElem?_eq_getElem h6] at h5
  simp only[madeCells,Array.getElem_map,Array.getElem_range,List.getElem_toArray]
  have h7:t % 5=0∨t % 5=1∨t % 5=2∨t % 5=3∨t % 5=4:=by omega
  have hs:(Value.agg #[.int .u64 0,.string ⟨#[]⟩,.bool false,.int .u64 0,.string ⟨#[]⟩]).cells.size=5:=rfl
  rw[hs]
  rcases h7 with h | h | h | h | h <;> rw[h] at h5 ⊢ <;> exact(Option.some.inj h5.symm)
theorem mk_vec (L:Nat) (hL:L≤4194304) (w:World):(Instr.makeSlice 32 (.int .i64 (L:Int)) (.int .i64 (L:Int))).run Tryz.prog w =
  .ok (.slice (some ⟨w.heap.size,0,none⟩) L L) (w.alloc (.cells (fcl (List.replicate L 0)).toArray 72)):=by
 obtain⟨i0,hi,hz0,hz1,hz2⟩:=info_parts info_frac5
 have:=run_make (P:=Tryz.prog) w 32 72 i0 _ Tryz.underlying32 hi hz0 .i64 .i64 L L (by omega) (Int.le_refl _) (by rw[hz2];omega) (by omega)
 rw[this]
 simp only[Int.toNat_natCast,hz1]
 rw[made_frac]
theorem VBx.made (w:World) (L:Nat):VBx (w.alloc (.cells (fcl (List.replicate L 0)).toArray 72)) w.heap.size (List.replicate L 0):=Bx.new w _ _
def IntsAt (w:World) (a:Option Addr) (xs:List Int):Prop:=∀ i,i<xs.length→∃ b off,a=some ⟨b,off,none⟩∧b<w.heap.size∧w.cell? ⟨b,off+i,none⟩=some (.int .i64 (xs.getD i 0))
theorem IntsAt.call {w w':World} {a:Option Addr} {xs:List Int} (h:IntsAt w a xs) (hb:Below w.heap.size w w'):IntsAt w' a xs:=fun i hi=>by
 obtain⟨b,off,h1,h2,h3⟩:=h i hi
 exact⟨b,off,h1,Nat.lt_of_lt_of_le h2 hb.size,by rw[hb.cell (p:=⟨b,off+i,none⟩) h2];exact h3⟩
end Gus
end
section
namespace Gus
open Go Go.RowKit Go.Proofs
def pv (F:Nat→Rat) (n k:Nat):List Rat:=(List.range n).map fun i=>if i<k then F i else 0
theorem pv_length (F:Nat→Rat) (n k:Nat):(pv F n k).length=n:=by simp[pv]
theorem pv_zero (F:Nat→Rat) (n:Nat):pv F n 0=List.replicate n 0:=by
 unfold pv
 apply List.ext_getElem
 ·simp
 ·intro i h1 h2;simp
theorem pv_set (F:Nat→Rat) (n k:Nat):(pv F n k).set k (F k)=pv F n (k+1):=by
 apply List.ext_getElem
 ·simp[pv]
 ·intro i h1 h2
  simp only[pv,List.getElem_set,List.getElem_map,List.getElem_range]
  by_cases h:k=i
  ·subst h;rw[if_pos rfl,if_pos (by omega)]
  ·rw[if_neg h]
   by_cases h2:i<k
   ·rw[if_pos h2,if_pos (by omega)]
   ·rw[if_neg h2,if_neg (by omega)]
theorem pv_full (F:Nat→Rat) (n:Nat):pv F n n=(List.range n).map F:=by
 unfold pv
 exact List.map_congr_left fun i hi=>by rw[if_pos (List.mem_range.1 hi)]
set_option maxRecDepth 100000 in
set_option maxHeartbeats 2000000 in
theorem vof_any (w:World) (a:Option Addr) (cap:Nat) (xs:List Int) (hx:IntsAt w a xs) (hl:xs.length≤4096) (hb:∀ i,-9223372036854775808≤xs.getD i 0∧xs.getD i 0<9223372036854775808) :
  Calls Tryz.prog 41 #[.slice a xs.length cap] w fun e w'=>∃ g,e=.returned (.slice (some ⟨g,0,none⟩) xs.length xs.length)∧w.heap.size≤g∧VBx w' g ((List.range xs.length).map fun i=>((xs.getD i 0:Int):Rat))∧Below w.heap.size w w':=by
 obtain⟨L,hL⟩:∃ L,L=xs.length:=⟨_,rfl⟩
 unfold IntsAt at hx
 rw[←hL] at hx hl ⊢
 have HMK:=Lib.hid (mk_vec L (by omega))
 have HX:=Lib.hid hx
 have HB:=Lib.hid hb
 obtain⟨X,hX⟩:∃ X,X=w.heap.size:=⟨_,rfl⟩
 have hmk:=HMK.out w
 rw[←hX] at hmk
 have HW:=Lib.hid hX
 rw[←hX]
 clear hL hb hx
 go_enter Tryz.func41,Tryz.ntmps41
 go_wp2_with fail
 have hv:=Bx.new_at w (fcl (List.replicate L 0)).toArray 72 hX
 have hin:In X w (w.alloc (.cells (fcl (List.replicate L 0)).toArray 72)):=by rw[hX];exact(In.self w).alloc _
 rw[←hX]
 clear hmk hX
 generalize w.alloc (.cells (fcl (List.replicate L 0)).toArray 72)=W1 at *
 rw[show(fcl (List.replicate L 0)).toArray.toList=fcl (pv (fun i=>((xs.getD i 0:Int):Rat)) L 0) by rw[pv_zero]] at hv
 go_loopw [10] (fun v10 wr=>∃ k:Nat,k≤L∧v10=.int .i64 k∧In X w wr∧VBx wr X (pv (fun i=>((xs.getD i 0:Int):Rat)) L k)) (fun v10 _=>L - (RowKit.intOf v10).toNat)
 case atStart=>exact⟨0,Nat.zero_le _,rfl,hin,hv⟩
 case round=>
  clear hin hv
  obtain⟨k,hk,rfl,hin,hv⟩:=hrel
  by_cases hkL:k<L
  ·obtain⟨b,off,rfl,hb,hc⟩:=HX.out k hkL
   have hbd:=HB.out k
   obtain⟨x,hx⟩:∃ x,x=xs.getD k 0:=⟨_,rfl⟩
   rw[←hx] at hc hbd
   have h1:=fracInt_any x hbd.1 hbd.2
   rw[←HW.out] at hb
   rw[←hin.cell b _ hb] at hc
   have hbw:b<wr.heap.size:=by have:=hin.siz;omega
   have hkI:(k:Int)<L:=by omega
   have hk0:(0:Int)≤k:=by omega
   obtain⟨q,hq⟩:∃ q:Rat,q=(x:Rat):=⟨_,rfl⟩
   rw[←hq] at h1
   have HXX:Hid (q=((xs.getD k 0:Int):Rat)):=Lib.hid (by rw[hq,hx])
   clear hx hq
   go_wp2_with fail
   ((with_reducible refine(h1 _).mono ?_))
   rintro e w2 ⟨rfl,hb2⟩
   have hin2:=hin.call hb2
   have hv2:=hv.call hb2
   have hs:=VBx.set hv2 k q (by rw[pv_length];exact hkL)
   rw[show(pv (fun i=>((xs.getD i 0:Int):Rat)) L k).set k q=pv (fun i=>((xs.getD i 0:Int):Rat)) L (k+1) by rw[HXX.out];exact pv_set _ _ _] at hs
   have HS:=Lib.hid hs
   have hXl:=hv2.lt
   obtain⟨B1,B2,B3,B4,B5,_,c0,c1,c2,c3,c4,g0,g1,g2,g3,g4⟩:=VBx.cells hv2 (i:=k) (by rw[pv_length];exact hkL)
   have hkw:IntKind.i64.wrap ((k:Int)+1)=((k+1:Nat):Int):=IntWalk.i64_in _ (by omega)
   clear hb2 hin hv hc hbw hs h1 hv2
   have HI:=Lib.hid hin2
   clear hin2
   go_wp2_with fail
   exact⟨⟨k+1,by omega,by go_num,HI.out.put5 (Nat.le_refl _) k q,HS.out⟩,by simp[RowKit.intOf];omega⟩
  ·have hkL':k=L:=by omega
   have hkI:¬ (k:Int)<L:=by omega
   subst hkL'
   rw[pv_full] at hv
   have H1:=Lib.hid hv
   have H2:=Lib.hid hin
   clear hv hin
   go_wp2_with fail
   go_ret
   exact⟨X,rfl,Nat.le_refl _,H1.out,H2.out.bel.mono (by rw[HW.out];exact Nat.le_refl _)⟩
end Gus
end
