/- Proved here: parts of the proof: KSpA KMap KBld KBldB. Conditions: those that each theorem states. -/
import Derived.Test.YthblojaeoiemmaaGreatDoorKFracBQ
import Derived.DeepKeys5
import Derived.Maps.RangeWalk
import Derived.Maps.OwnSet
section
namespace Gus
open Go Go.RowKit Go.Proofs
def qOf (n d:Int):Rat:=(n:Rat) / ((max d 1:Int):Rat)
set_option maxRecDepth 100000 in
set_option maxHeartbeats 1000000 in
theorem qOf_any (n d:Int) (hn0:-9223372036854775808≤n) (hn1:n<9223372036854775808) (hd0:0≤d) (hd1:d<4294967296) (w:World) :
  Calls Tryz.prog 45 #[.agg #[.int .i64 n,.int .u32 d]] w fun e w'=>e=.returned (fracV (qOf n d))∧Below w.heap.size w w':=by
 have h1:=fracOf_any n (max d 1) hn0 hn1 (by omega) (by omega) (by omega)
 unfold qOf
 obtain⟨q,hq⟩:∃ q,q=(n:Rat) / ((max d 1:Int):Rat):=⟨_,rfl⟩
 rw[←hq] at h1 ⊢
 have hw1:IntKind.i64.wrap (max d 1)=max d 1:=IntWalk.i64_in _ (by omega)
 clear hq
 go_enter Tryz.func45,Tryz.ntmps45
 go_wp2_with fail
 (((with_reducible refine(h1 _).mono ?_));rintro e w' ⟨rfl,hb⟩;have h:=tsz ((In.self _).call hb);clear hb;have hc:=h.cell;have hf:=h.frozen)
 have hz0:w.heap.size<w'.heap.size:=(by have:=h.siz;omega);have hz1:w.heap.size+1<w'.heap.size:=(by have:=h.siz;omega)
 go_wp2_with fail
 exact bodyPost_ret (v:=fracV q) (by simp[results,Tryz.results45,go_sem, *]) rfl ⟨rfl,by exact tfin⟩
theorem has_any (i n:Int) (w:World) :
  Calls Tryz.prog 105 #[.int .i64 i,.int .i64 n] w fun e w'=>e=.returned (.bool (decide (0≤i) && decide (i<n)))∧Below w.heap.size w w':=by
 by_cases h0:0≤i
 ·have e:(decide (0≤i) && decide (i<n))=decide (i<n):=by rw[decide_eq_true h0,Bool.true_and]
  rw[e]
  clear e
  go_enter Tryz.func105,Tryz.ntmps105
  go_wp2_with fail
  go_ret
  exact⟨rfl,by exact tfin⟩
 ·have e:(decide (0≤i) && decide (i<n))=false:=by rw[decide_eq_false h0,Bool.false_and]
  rw[e]
  clear e
  go_enter Tryz.func105,Tryz.ntmps105
  go_wp2_with fail
  go_ret
  exact⟨rfl,by exact tfin⟩
def sidesE (n m:Int):Int:=if n<0∨m<0 then 1 else if 2048<n∨2048<m then 3 else 0
set_option maxRecDepth 100000 in
set_option maxHeartbeats 1000000 in
theorem sides_any (n m:Int) (w:World) :
  Calls Tryz.prog 44 #[.int .i64 n,.int .i64 m] w fun e w'=>e=.returned (.int .i64 (sidesE n m))∧Below w.heap.size w w':=by
 unfold sidesE
 by_cases h1:n<0 <;> by_cases h2:m<0 <;> by_cases h3:2048<n <;> by_cases h4:2048<m <;> simp only[h1,h2,h3,h4,or_true,or_false,if_true,if_false,or_self]
 all_goals
  go_enter Tryz.func44,Tryz.ntmps44
  go_wp2_with fail
  go_ret
  exact⟨rfl,by exact tfin⟩
end Gus
end
section
namespace Gus
open Go Go.RowKit Go.Proofs
theorem place_keyed:Maps.Keyed Tryz.prog 178:=
 Maps.Keyed.of_law (deep_law_gate (by kernel_rfl) (Nat.le_of_ble_eq_true (by kernel_rfl)) (Nat.le_of_ble_eq_true (by kernel_rfl)) (by kernel_rfl) (by kernel_rfl))
abbrev posV (i k:Int):Value:=.agg #[.int .i64 i,.int .i64 k]
def posL (i k:Int):Lit:=.string (keyBytes [.int .i64 i,.int .i64 k])
theorem wf64 {i:Int} (h0:-9223372036854775808≤i) (h1:i<9223372036854775808):(Lit.int .i64 i).wf=true:=by
 simp[Lit.wf,IntKind.min,IntKind.max,IntKind.signed,IntKind.bits];omega
theorem keyLits_int {P:Program} {d t:Nat} (ht:P.underlying t=some (.int .i64)) {i:Int} (hw:(Lit.int .i64 i).wf=true):P.keyLits (d+1) t [.int .i64 i]=some [.int .i64 i]:=by
 unfold Program.keyLits
 simp[ht,hw]
theorem keyLits_int_inv {P:Program} {d t:Nat} (ht:P.underlying t=some (.int .i64)) {c:Value} {ls:List Lit} (h:P.keyLits (d+1) t [c]=some ls):∃ i,c=.int .i64 i∧ls=[.int .i64 i]∧(Lit.int .i64 i).wf=true:=by
 unfold Program.keyLits at h
 rw[ht] at h
 cases c <;> simp at h
 obtain⟨⟨rfl,hw⟩,rfl⟩:=h
 exact⟨_,rfl,rfl,hw⟩
theorem place_cells:Tryz.prog.cellsOf 178=2:=by kernel_rfl
theorem int_cells:Tryz.prog.cellsOf 3=1:=by kernel_rfl
theorem place_key:Tryz.prog.keyType 178=true:=by kernel_rfl
theorem types_pos:∃ d,Tryz.prog.types.size=d+1:=⟨Tryz.prog.types.size - 1,(Nat.sub_add_cancel (Nat.le_of_ble_eq_true (by kernel_rfl))).symm⟩
theorem posL_of {i k:Int} (hi:(Lit.int .i64 i).wf=true) (hk:(Lit.int .i64 k).wf=true):keyOf Tryz.prog 178 (posV i k)=some (posL i k):=by
 obtain⟨d,hd⟩:=types_pos
 have h1:=keyLits_int (d:=d) Tryz.underlying3 hi
 have h2:=keyLits_int (d:=d) Tryz.underlying3 hk
 have hf:(posV i k).formed Tryz.prog 178=true:=by
  simp[Value.formed,Tryz.underlying178,place_cells]
 unfold keyOf
 rw[Tryz.underlying178]
 simp only[place_key,hf,Bool.and_self,if_true]
 rw[show Tryz.prog.keyLits (Tryz.prog.types.size+1) 178 (posV i k).cells.toList=some [.int .i64 i,.int .i64 k] by
  unfold Program.keyLits
  rw[Tryz.underlying178,hd]
  simp[Value.cells,place_cells,int_cells,h1,h2]]
 rfl
theorem list_two {α:Type}:∀ {l:List α},l.length=2→∃ a b,l=[a,b]
 | [a,b],_=>⟨a,b,rfl⟩
theorem keyOf_struct_inv {P:Program} {k:TypeId} {fs:Array Field} {v:Value} {l:Lit} (hu:P.underlying k=some (.struct fs)) (h:keyOf P k v=some l) :
  v.formed P k=true∧∃ ls,P.keyLits (P.types.size+1) k v.cells.toList=some ls∧l=.string (keyBytes ls):=by
 unfold keyOf at h
 rw[hu] at h
 simp only at h
 split at h
 ·rename_i hf
  rw[Bool.and_eq_true] at hf
  obtain⟨ls,h1,h2⟩:=Option.map_eq_some_iff.1 h
  exact⟨hf.2,ls,h1,h2.symm⟩
 ·cases h
theorem formed_two {P:Program} {k:TypeId} {fs:Array Field} {v:Value} (hu:P.underlying k=some (.struct fs)) (hc:P.cellsOf k=2) (h:v.formed P k=true):∃ c0 c1,v=.agg #[c0,c1]:=by
 cases v <;> simp[Value.formed,hu,hc] at h
 rename_i cs
 obtain⟨c0,c1,hcs⟩:=list_two (l:=cs.toList) (by simpa using h)
 exact⟨c0,c1,by rw[←hcs]⟩
theorem keyLits_two {P:Program} {k t d:Nat} {f0 f1:Field} {c0 c1:Value} {ls:List Lit} (hu:P.underlying k=some (.struct #[f0,f1])) (h0:f0.type=t) (h1:f1.type=t) (ho0:f0.offset=0) (ho1:f1.offset=1) (ht:P.underlying t=some (.int .i64)) (hct:P.cellsOf t=1)
  (h:P.keyLits (d+1+1) k [c0,c1]=some ls):∃ i j,c0=.int .i64 i∧c1=.int .i64 j∧ls=[.int .i64 i,.int .i64 j]∧(Lit.int .i64 i).wf=true∧(Lit.int .i64 j).wf=true:=by
 unfold Program.keyLits at h
 rw[hu] at h
 simp only at h
 split at h
 ·obtain⟨l2,hl2,rfl⟩:=Option.map_eq_some_iff.1 h
  simp only[List.mapM_cons,List.mapM_nil,h0,h1,ho0,ho1,hct,List.drop_zero,List.drop_succ_cons,List.take_succ_cons,List.take_zero,List.take_nil,Option.bind_eq_bind,Option.pure_def,Option.bind_eq_some_iff,Option.some.injEq] at hl2
  obtain⟨a,ha,b,⟨b2,hb2,c,hc2,rfl⟩,rfl⟩:=hl2
  obtain⟨i,rfl,rfl,hwi⟩:=keyLits_int_inv ht ha
  obtain⟨j,rfl,rfl,hwj⟩:=keyLits_int_inv ht hb2
  subst hc2
  exact⟨i,j,rfl,rfl,rfl,hwi,hwj⟩
 ·cases h
theorem posL_inv {v:Value} {l:Lit} (h:keyOf Tryz.prog 178 v=some l):∃ i k:Int,v=posV i k∧l=posL i k∧(Lit.int .i64 i).wf=true∧(Lit.int .i64 k).wf=true:=by
 obtain⟨hf,ls,hls,rfl⟩:=keyOf_struct_inv Tryz.underlying178 h
 obtain⟨c0,c1,rfl⟩:=formed_two Tryz.underlying178 place_cells hf
 obtain⟨d,hd⟩:=types_pos
 rw[hd] at hls
 obtain⟨i,j,rfl,rfl,rfl,hi,hj⟩:=keyLits_two (t:=3) Tryz.underlying178 rfl rfl rfl rfl Tryz.underlying3 int_cells hls
 exact⟨i,j,rfl,rfl,hi,hj⟩
theorem bg_inj {m n:Nat} (h1:lo m=lo n) (h2:bg m=bg n):m=n:=(nat_eq_iff m n).1 ⟨h1,by rw[h2]⟩
theorem fracV_inj {p q:Rat} (h:fracV p=fracV q):p=q:=by
 simp only[fracV,Value.agg.injEq] at h
 have h':=congrArg Array.toList h
 simp only[List.cons.injEq,Value.int.injEq,Value.string.injEq,Value.bool.injEq,true_and,and_true,decide_eq_decide] at h'
 obtain⟨h1,h2,h3,h4,h5⟩:=h'
 have hn:=bg_inj h1 h2
 have hd:=bg_inj h4 h5
 have:=p.den_pos;have:=q.den_pos
 refine Rat.ext ?_ (by omega)
 by_cases hp:p.num<0
 ·have:=h3.1 hp;omega
 ·have:¬ q.num<0:=fun h=>hp (h3.2 h)
  omega
open Classical in
noncomputable def Rf (v:Value):Option (DataW Rat×List MemPlace):=if h:∃ q,v=fracV q then some (.held (Classical.choose h),[]) else none
theorem Rf_frac (q:Rat):Rf (fracV q)=some (.held q,[]):=by
 have h:∃ p,fracV q=fracV p:=⟨q,rfl⟩
 unfold Rf
 rw[dif_pos h,←fracV_inj (Classical.choose_spec h)]
theorem Rf_inv {v:Value} {y:DataW Rat×List MemPlace} (h:Rf v=some y):∃ q,v=fracV q∧y=(.held q,[]):=by
 by_cases hv:∃ q,v=fracV q
 ·obtain⟨q,rfl⟩:=hv
  rw[Rf_frac] at h
  cases h;exact⟨q,rfl,rfl⟩
 ·unfold Rf at h;rw[dif_neg hv] at h;cases h
def setF (f:Nat→Nat→Rat) (i k:Nat) (q:Rat):Nat→Nat→Rat:=fun a b=>if a=i∧b=k then q else f a b
theorem setF_same (f:Nat→Nat→Rat) (i k:Nat) (q:Rat):setF f i k q i k=q:=by unfold setF;rw[if_pos ⟨rfl,rfl⟩]
theorem setF_ne (f:Nat→Nat→Rat) {i k a b:Nat} (q:Rat) (h:¬ (a=i∧b=k)):setF f i k q a b=f a b:=by unfold setF;rw[if_neg h]
theorem posL_inj {i k i' k':Nat} (h:i<2048) (h2:k<2048) (h':i'<2048) (h2':k'<2048) (e:posL i k=posL i' k'):i=i'∧k=k':=by
 have e1:=posL_of (i:=(i:Int)) (k:=(k:Int)) (wf64 (by omega) (by omega)) (wf64 (by omega) (by omega))
 have e2:=posL_of (i:=(i':Int)) (k:=(k':Int)) (wf64 (by omega) (by omega)) (wf64 (by omega) (by omega))
 rw[e] at e1
 have:=place_keyed.inj e1 e2
 simp only[posV,Value.agg.injEq] at this
 have h3:=congrArg Array.toList this
 simp only[List.cons.injEq,Value.int.injEq,true_and,and_true] at h3
 omega
def BM (w:World) (b n N M:Nat) (f:Nat→Nat→Rat):Prop:=
 ∃ D,w.ownsMap Tryz.prog 178 Rf b n D∧Maps.IsMap D∧(∀ i k,i<N→k<M→D.atKey (posL i k) (.held 0)=.held (f i k))∧(∀ i k,i<N→k<M→(Maps.has D (posL i k)=true↔f i k≠0)) ∧
  ∀ l,Maps.has D l=true→∃ i k:Nat,i<N∧k<M∧l=posL i k
theorem BM.new (w:World) (N M:Nat):BM (w.alloc (.map #[] 0)) w.heap.size 0 N M (fun _ _=>0):=
 ⟨.map [],World.ownsMap_made w _ _ _,Maps.isMap_empty,fun _ _ _ _=>rfl,fun _ _ _ _=>by simp[Maps.has],fun l h=>by simp[Maps.has] at h⟩
section
variable {w w':World} {b n N M:Nat} {f:Nat→Nat→Rat}
theorem BM.lt (h:BM w b n N M f):b<w.heap.size:=let ⟨_,h1,_⟩:=h;h1.lt
theorem BM.of_block (h:BM w b n N M f) (hb:w'.heap[b]?=w.heap[b]?):BM w' b n N M f:=by
 obtain⟨D,⟨es,clock,h1,h2,h3,h4⟩,hr⟩:=h
 exact⟨D,⟨es,clock,hb.trans h1,h2,h3,h4⟩,hr⟩
theorem BM.below {B:Nat} (h:BM w b n N M f) (hb:Below B w w') (hB:b<B):BM w' b n N M f:=h.of_block (hb.block b hB)
theorem BM.call (h:BM w b n N M f) (hb:Below w.heap.size w w'):BM w' b n N M f:=h.below hb h.lt
theorem BM.other {a:Addr} (h:BM w b n N M f) (hne:a.block≠b) (v:Value):BM (w.setCell a v) b n N M f:=h.of_block (heap_setCell_other w a b v (Ne.symm hne))
theorem BM.alloc (h:BM w b n N M f) (o:Obj):BM (w.alloc o) b n N M f:=h.of_block (Below.heap_alloc w o b h.lt)
theorem BM.drew (h:BM w b n N M f):BM w.drew b n N M f:=h
theorem BM.ext {g:Nat→Nat→Rat} (h:BM w b n N M f) (hg:∀ i k,i<N→k<M→g i k=f i k):BM w b n N M g:=by
 obtain⟨D,h1,h2,h3,h4,h5⟩:=h
 exact⟨D,h1,h2,fun i k hi hk=>by rw[h3 i k hi hk,hg i k hi hk],fun i k hi hk=>by rw[h4 i k hi hk,hg i k hi hk],h5⟩
theorem posL_at {i k:Nat} (hi:i<2048) (hk:k<2048):keyOf Tryz.prog 178 (posV i k)=some (posL i k):=posL_of (wf64 (by omega) (by omega)) (wf64 (by omega) (by omega))
theorem zeroFrac (w:World):(zeroValue 72).run Tryz.prog w=.ok (fracV 0) w:=Tryz.zeroValue72 w
theorem BM.lookup (h:BM w b n N M f) (hN:N≤2048) (hM:M≤2048) {i k:Nat} (hi:i<N) (hk:k<M):(Instr.lookup 174 (.map (some b)) (posV i k) false).run Tryz.prog w=.ok (fracV (f i k)) w:=by
 obtain⟨D,h1,h2,h3,h4,h5⟩:=h
 obtain⟨v,ps,hr,hv⟩:=h1.lookup place_keyed Tryz.underlying174 (zeroFrac w) (Rf_frac 0) (posL_at (show i<2048 by omega) (show k<2048 by omega))
 rw[h3 i k hi hk] at hv
 obtain⟨q,rfl,hq⟩:=Rf_inv hv
 cases hq
 exact hr
theorem BM.update (h:BM w b n N M f) (hN:N≤2048) (hM:M≤2048) {i k:Nat} (hi:i<N) (hk:k<M) {q:Rat} (hq:q≠0) (hn:n<maxLen) :
  ∃ w',(Instr.mapUpdate 174 (.map (some b)) (posV i k) (fracV q)).run Tryz.prog w=.ok () w'∧BM w' b (n+1) N M (setF f i k q)∧w.grownBy w' (some b):=by
 obtain⟨D,h1,h2,h3,h4,h5⟩:=h
 have hkey:=posL_at (show i<2048 by omega) (show k<2048 by omega)
 have hl:WideAt.IsKeyLit (posL i k):=place_keyed.key hkey
 obtain⟨w',hr,ho,hg⟩:=h1.update place_keyed Tryz.underlying174 hn hkey (Rf_frac q)
 have hne:∀ a c:Nat,a<N→c<M→¬ (a=i∧c=k)→posL a c≠posL i k:=fun a c ha hc hne he=>hne (posL_inj (by omega) (by omega) (by omega) (by omega) he)
 refine⟨w',hr,⟨_,ho,h2.put _ _,fun a c ha hc=>?_,fun a c ha hc=>?_,fun l hl'=>?_⟩,hg⟩
 ·by_cases he:a=i∧c=k
  ·obtain⟨rfl,rfl⟩:=he
   rw[Maps.atKey_put_same h2 hl,setF_same]
  ·rw[Maps.atKey_put_other (hne a c ha hc he),h3 a c ha hc,setF_ne _ _ he]
 ·by_cases he:a=i∧c=k
  ·obtain⟨rfl,rfl⟩:=he
   rw[Maps.has_put_same h2 hl,setF_same];simp[hq]
  ·rw[Maps.has_put_other (hne a c ha hc he),h4 a c ha hc,setF_ne _ _ he]
 ·by_cases he:l=posL i k
  ·exact⟨i,k,hi,hk,he⟩
  ·rw[Maps.has_put_other he] at hl'
   exact h5 l hl'
theorem BM.drop (h:BM w b n N M f) (hN:N≤2048) (hM:M≤2048) {i k:Nat} (hi:i<N) (hk:k<M) (ty:TypeId) :
  ∃ w',(Builtin.delete_ #[174,178] ty #[.map (some b),posV i k]).run Tryz.prog w=.ok (.tuple #[]) w'∧BM w' b n N M (setF f i k 0)∧w.mapTurned w' b:=by
 obtain⟨D,h1,h2,h3,h4,h5⟩:=h
 have hkey:=posL_at (show i<2048 by omega) (show k<2048 by omega)
 obtain⟨w',hr,ho,hg⟩:=h1.drop place_keyed Tryz.underlying174 hkey ty
 have hne:∀ a c:Nat,a<N→c<M→¬ (a=i∧c=k)→posL a c≠posL i k:=fun a c ha hc hne he=>hne (posL_inj (by omega) (by omega) (by omega) (by omega) he)
 refine⟨w',hr,⟨_,ho,h2.del _,fun a c ha hc=>?_,fun a c ha hc=>?_,fun l hl'=>?_⟩,hg⟩
 ·by_cases he:a=i∧c=k
  ·obtain⟨rfl,rfl⟩:=he
   rw[Maps.atKey_del_same,setF_same]
  ·rw[Maps.atKey_del_other (hne a c ha hc he),h3 a c ha hc,setF_ne _ _ he]
 ·by_cases he:a=i∧c=k
  ·obtain⟨rfl,rfl⟩:=he
   rw[Maps.has_del_same,setF_same];simp
  ·rw[Maps.has_del_other (hne a c ha hc he),h4 a c ha hc,setF_ne _ _ he]
 ·by_cases he:l=posL i k
  ·rw[he,Maps.has_del_same] at hl';cases hl'
  ·rw[Maps.has_del_other he] at hl'
   exact h5 l hl'
end
end Gus
end
section
namespace Gus
open Go Go.RowKit Go.Proofs Go.ChangeMaps Go.MapKept
theorem gr_of_turned {w w':World} {b:Nat} (h:w.mapTurned w' b):w.grownBy w' (some b):=by
 obtain⟨es,clock,es',clock',hb,rfl⟩:=h
 exact⟨rfl,rfl,rfl,by simp[setBlock],fun i _ hi=>heap_setBlock_other hb _ (fun e=>hi (by rw[e]))⟩
section
variable {ops:Array Oper} {rest:List Oper} {o:Oper} {a:Act} {Q:Exit→Act→World→Prop} {w:World} {b n N M:Nat} {f:Nat→Nat→Rat}
theorem wpList_update_BM (hg:o.guard=none) (m x v:Operand) (hop:o.op=Op.mapUpdate 174 m x v) (i k:Nat) (q:Rat)
  (hm:a.eval m=.map (some b)) (hx:a.eval x=posV i k) (hv:a.eval v=fracV q) (h:BM w b n N M f) (hN:N≤2048) (hM:M≤2048) (hi:i<N) (hk:k<M) (hq:q≠0) (hn:n<maxLen)
  (hK:∀ w',BM w' b (n+1) N M (setF f i k q)→w.grownBy w' (some b)→wpList Tryz.prog ops Q rest (a.put o.dst undef) w'):wpList Tryz.prog ops Q (o :: rest) a w:=by
 refine wpList_plain hg fun K' hK'=>?_
 obtain⟨w',hrun,r1,r2⟩:=h.update hN hM hi hk hq hn
 unfold Oper.wp
 simp[execOp,hop,hm,hx,hv,hrun,Result.andThen]
 exact hK' _ _ (hK w' r1 r2)
theorem wpList_drop_BM (hg:o.guard=none) (m x:Operand) (hop:o.op=Op.call { callee:=Callee.builtin Builtin.delete,args:=#[m,x],argTypes:=#[174,178] }) (i k:Nat)
  (hm:a.eval m=.map (some b)) (hx:a.eval x=posV i k) (h:BM w b n N M f) (hN:N≤2048) (hM:M≤2048) (hi:i<N) (hk:k<M)
  (hK:∀ w',BM w' b n N M (setF f i k 0)→w.grownBy w' (some b)→wpList Tryz.prog ops Q rest (a.put o.dst (.tuple #[])) w'):wpList Tryz.prog ops Q (o :: rest) a w:=by
 refine wpList_plain hg fun K' hK'=>?_
 obtain⟨w',hrun,r1,r2⟩:=h.drop hN hM hi hk o.type
 unfold Oper.wp
 simp[execOp,hop,resolve,invoke,builtin,hm,hx,hrun,Result.andThen]
 exact hK' _ _ (hK w' r1 (gr_of_turned r2))
end
def BB (w:World) (p b n N M:Nat) (f:Nat→Nat→Rat):Prop:=Bx w p 176 [.int .i64 N,.int .i64 M,.map (some b)]∧BM w b n N M f
set_option maxRecDepth 100000 in
theorem begun_any (N M:Nat) (w:World) :
  Calls Tryz.prog 104 #[.int .i64 N,.int .i64 M] w fun e w'=>e=.returned (.pointer (some ⟨w.heap.size+1,0,none⟩))∧BB w' (w.heap.size+1) w.heap.size 0 N M (fun _ _=>0)∧Below w.heap.size w w':=by
 have hmk:=fun w:World=>run_makeMap (P:=Tryz.prog) 174 w
 go_enter Tryz.func104,Tryz.ntmps104
 go_wp2_with fail
 go_ret
 refine⟨rfl,⟨Bx.new_at _ _ _ (by simp),(BM.new w N M).alloc _⟩,by(refine In.bel ?_;(repeat (first |(refine In.setCell ?_ (by first | omega |(simp;done)|(simp;omega)) _)|(refine In.alloc ?_ _)|(refine In.drew ?_)));(first | exact In.self _ |(refine In.out h ?_ (by first | omega |(simp;done)|(simp;omega));(repeat (first |(refine In.setCell ?_ (by first | omega |(simp;done)|(simp;omega)) _)|(refine In.alloc ?_ _)|(refine In.drew ?_)));exact In.self _)))⟩
theorem gr_after {w w1 w2:World} {X b:Nat} (h:In X w w1) (hX:X=w.heap.size) (hg:w1.grownBy w2 (some b)):w.grownBy w2 (some b):=
 ⟨hg.os.trans h.bel.os,hg.tape.trans h.bel.tape,hg.output.trans h.bel.output,Nat.le_trans h.bel.size hg.size,fun j hj hne=>(hg.block j (Nat.lt_of_lt_of_le hj h.bel.size) hne).trans (h.bel.block j (by omega))⟩
theorem BM.mono {w:World} {b n n' N M:Nat} {f:Nat→Nat→Rat} (h:BM w b n N M f) (hn:n≤n'):BM w b n' N M f:=let ⟨D,h1,h2⟩:=h;⟨D,h1.mono hn,h2⟩
set_option maxRecDepth 100000 in
set_option maxHeartbeats 2000000 in
theorem badd_in {s j:Nat} (w:World) (p b n N M:Nat) (f:Nat→Nat→Rat) (i k:Nat) (q:Rat) (hB:BB w p b n N M f) (hi:i<N) (hk:k<M) (hN:N≤2048) (hM:M≤2048) (hn:n<maxLen) (hpb:p≠b)
  (hs:SzK s (f i k)) (hj:SzK j q) (hsj:s+j+1<17592186044416) :
  Calls Tryz.prog 58 #[.pointer (some ⟨p,0,none⟩),.int .i64 i,.int .i64 k,fracV q] w fun e w'=>e=.returned (.int .i64 0)∧BB w' p b (n+1) N M (setF f i k (f i k+q))∧w.grownBy w' (some b):=by
 have c0:=hB.1.c0
 have c1:=hB.1.c1
 have c2:=hB.1.c2
 have hp:=hB.1.lt
 have hb:=hB.2.lt
 have h1:=has_any i N
 have h2:=has_any k M
 rw[show(decide ((0:Int)≤(i:Int)) && decide ((i:Int)<(N:Int)))=true by simp;omega] at h1
 rw[show(decide ((0:Int)≤(k:Int)) && decide ((k:Int)<(M:Int)))=true by simp;omega] at h2
 have h3:=fadd_any (f i k) q hs hj hsj
 have h4:=fsign_any (f i k+q)
 have hlk:∀ w1:World,St w w1→(Instr.lookup 174 (.map (some b)) (posV i k) false).run Tryz.prog w1=.ok (fracV (f i k)) w1:=fun w1 hs=>(hB.2.call hs).lookup hN hM hi hk
 have HLK:=Lib.hid hlk
 obtain⟨x,hx⟩:∃ x,x=f i k+q:=⟨_,rfl⟩
 rw[←hx] at h3 h4 ⊢
 obtain⟨y,hy⟩:∃ y,y=f i k:=⟨_,rfl⟩
 rw[←hy] at h3 HLK
 have HX:=Lib.hid hx
 have HB:=Lib.hid hB
 clear hlk hx hy hB hs hj hsj
 go_enter Tryz.func58,Tryz.ntmps58
 go_wp2_with fail
 (((with_reducible refine(h1 _).mono ?_));rintro e w' ⟨rfl,hb⟩;have h:=(In.self _).call hb;(try simp only[World.size_alloc] at h);(try simp only[World.size_setCell] at h);clear hb;have hc:=h.cell;have hf:=h.frozen)
 go_wp2_with fail
 (((with_reducible refine(h2 _).mono ?_));rintro e w' ⟨rfl,hb⟩;replace h:=In.call (by first | exact h | exact h.drew | exact h.alloc _ | exact(h.alloc _).alloc _ | exact((h.alloc _).alloc _).alloc _) hb;clear hb hc hf;have hc:=h.cell;have hf:=h.frozen)
 have bq:=(Bx.new_at w #[.int .u64 (lo q.num.natAbs),.string (bg q.num.natAbs),.bool (decide (q.num<0)),.int .u64 (lo (q.den - 1)),.string (bg (q.den - 1))] 72 rfl).below h.bel (Nat.lt_succ_self _)
 have hin:=h.out ((In.self w).alloc _) (Nat.le_succ _)
 clear hc hf h h1 h2
 go_upto_region 6 with fail
 obtain⟨X,hX⟩:∃ X,X=w.heap.size:=⟨_,rfl⟩
 obtain⟨P,hP⟩:∃ P,P=w'.heap.size:=⟨_,rfl⟩
 rw[←hX] at bq hin hp hb ⊢
 rw[←hP]
 have hXP:X<P:=by rw[hP];exact bq.lt
 have bp0:=(HB.out.1.below hin.bel hp).alloc (.cells #[.int .i64 i,.int .i64 k] 178)
 have bm0:=(HB.out.2.below hin.bel hb).alloc (.cells #[.int .i64 i,.int .i64 k] 178)
 have bq0:=bq.alloc (.cells #[.int .i64 i,.int .i64 k] 178)
 have bk0:=Bx.new_at w' #[.int .i64 i,.int .i64 k] 178 hP
 have hin0:=hin.alloc (.cells #[.int .i64 i,.int .i64 k] 178)
 have HXX:=Lib.hid hX
 have hlk:=fun w1 (hs:St (w'.alloc (.cells #[.int .i64 i,.int .i64 k] 178)) w1)=>HLK.out w1 (by rw[St,←HXX.out];exact hin0.bel.trans (Below.mono hs (by have:=hin0.siz;exact this)))
 clear bq hin hX hP
 generalize w'.alloc (.cells #[.int .i64 i,.int .i64 k] 178)=W1 at *
 clear c0 c1 c2
 have c0:=bp0.c0
 have c1:=bp0.c1
 have c2:=bp0.c2
 have q0:=bq0.c0
 have q1:=bq0.c1
 have q2:=bq0.c2
 have q3:=bq0.c3
 have q4:=bq0.c4
 have k0:=bk0.c0
 have k1:=bk0.c1
 have l0:=bp0.lt
 have l1:=bq0.lt
 have l2:=bk0.lt
 have HL2:=Lib.hid hlk
 clear hlk
 refine wp_region_flow 9 (by kernel_rfl) (by kernel_rfl) (fun _ _ d _ _ h=>by cases d <;> exact h) ?_;simp only[List.take_succ_cons,List.take_zero,List.drop_succ_cons,List.drop_zero];simp only[putAll,Act.put,List.setIfInBounds_toArray,List.set];(try simp only[Nat.reduceAdd]);(try simp only[Nat.zero_add]);(repeat (first |((with_reducible refine flow_float (v:=?_) ?_ ?_ ?_);rotate_left 1;(focus (with_reducible rfl));(focus (intro u w1 hw hd w2;(try simp only[depH] at hd);(try simp only[ext] at hd);(try simp only[extU] at hd);(try simp only[Nat.reduceAdd] at hd);(try simp only[Nat.reduceEqDiff] at hd);(try simp only[reduceIte] at hd);(try simp only[and_true] at hd);(try simp only[true_and] at hd);go_simp;exact rfl)))|((first |((with_reducible refine flow_pure0 (v:=?_) ?_ ?_ ?_ ?_);rotate_left 1;(focus (with_reducible rfl));(focus rfl))|((with_reducible refine flow_pureg (v:=?_) (j:=?_) (b:=?_) ?_ ?_ ?_ ?_);rotate_left 3;(focus (with_reducible rfl));(focus (intro u w1 hw hd;(try simp only[depH] at hd);(try simp only[ext] at hd);(try simp only[extU] at hd);(try simp only[Nat.reduceAdd] at hd);(try simp only[Nat.reduceEqDiff] at hd);(try simp only[reduceIte] at hd);(try simp only[and_true] at hd);(try simp only[true_and] at hd);simp[yielded,hd];done))));(focus (intro u w1 hw hd;(try simp only[depH] at hd);(try simp only[ext] at hd);(try simp only[extU] at hd);(try simp only[Nat.reduceAdd] at hd);(try simp only[Nat.reduceEqDiff] at hd);(try simp only[reduceIte] at hd);(try simp only[and_true] at hd);(try simp only[true_and] at hd);have hc':=hw.cell;have hl2:=HL2.out w1 hw;first |(go_simp;exact rfl)|(go_simp;go_at_call 74;((with_reducible refine(h3 _).mono ?_));rintro e w'' ⟨rfl,hb⟩;refine⟨?_,hb⟩;exact rfl))))|((with_reducible refine flow_skipg (j:=?_) (b:=?_) ?_ ?_ ?_);rotate_left 2;(focus (with_reducible rfl));(focus (intro u w1 hw hd;(try simp only[depH] at hd);(try simp only[ext] at hd);(try simp only[extU] at hd);(try simp only[Nat.reduceAdd] at hd);(try simp only[Nat.reduceEqDiff] at hd);(try simp only[reduceIte] at hd);(try simp only[and_true] at hd);(try simp only[true_and] at hd);simp[yielded,hd];done)))|((with_reducible refine flow_alloc (t:=?_) (zs:=?_) ?_ ?_ ?_ ?_);rotate_left 2;(focus (with_reducible rfl));(focus rfl);(focus (intro u w1;go_simp;exact rfl)))))
 (try clear hc hf h);intro u w' h ha hdi;replace h:=h.ins;(try simp only[World.size_alloc] at h);(try dsimp only at ha);(repeat rw[World.size_alloc] at ha);(try simp only[allH] at ha);(try simp only[ext] at ha);(try simp only[extU] at ha);(try simp only[Nat.reduceAdd] at ha);(try simp only[Nat.reduceEqDiff] at ha);(try simp only[reduceIte] at ha);(try simp only[and_true] at ha);(try simp only[true_and] at ha);have hc:=h.cell;have hf:=h.frozen
 obtain⟨ha,G,hu,hWG,bg1⟩:=ha
 (try obtain ha:=ha);(try dsimp only);simp only[ha,hu];clear ha hdi hu
 have bp1:=bp0.below h.bel l0
 have bk1:=bk0.below h.bel l2
 have bm1:=bm0.below h.bel bm0.lt
 have nP:¬ G=P:=by omega
 have np:¬ G=p:=by omega
 have nb:¬ G=b:=by have:=bm0.lt;omega
 have hXG:X≤G:=by omega
 have hin1:=hin0.call h.bel
 have g0:=bg1.c0
 have g1:=bg1.c1
 have g2:=bg1.c2
 have g3:=bg1.c3
 have g4:=bg1.c4
 have f0:=bg1.frozen 0
 have f1:=bg1.frozen 1
 have f2:=bg1.frozen 2
 have f3:=bg1.frozen 3
 have f4:=bg1.frozen 4
 clear hc hf h hWG l0 l1 l2 k0 k1 q0 q1 q2 q3 q4 c0 c1 c2 bp0 bm0 bq0 bk0 hin0 HL2 HLK
 go_upto_region 7 with fail
 have bp:=((((bp1.other (a:=⟨G,0,none⟩) np (.int .u64 (lo x.num.natAbs))).other (a:=⟨G,1,none⟩) np (.string (bg x.num.natAbs))).other (a:=⟨G,2,none⟩) np (.bool (decide (x.num<0)))).other (a:=⟨G,3,none⟩) np (.int .u64 (lo (x.den - 1)))).other (a:=⟨G,4,none⟩) np (.string (bg (x.den - 1)))
 have bk:=((((bk1.other (a:=⟨G,0,none⟩) nP (.int .u64 (lo x.num.natAbs))).other (a:=⟨G,1,none⟩) nP (.string (bg x.num.natAbs))).other (a:=⟨G,2,none⟩) nP (.bool (decide (x.num<0)))).other (a:=⟨G,3,none⟩) nP (.int .u64 (lo (x.den - 1)))).other (a:=⟨G,4,none⟩) nP (.string (bg (x.den - 1)))
 have bm:=((((bm1.other (a:=⟨G,0,none⟩) nb (.int .u64 (lo x.num.natAbs))).other (a:=⟨G,1,none⟩) nb (.string (bg x.num.natAbs))).other (a:=⟨G,2,none⟩) nb (.bool (decide (x.num<0)))).other (a:=⟨G,3,none⟩) nb (.int .u64 (lo (x.den - 1)))).other (a:=⟨G,4,none⟩) nb (.string (bg (x.den - 1)))
 have bx:Bx _ G 72 [.int .u64 (lo x.num.natAbs),.string (bg x.num.natAbs),.bool (decide (x.num<0)),.int .u64 (lo (x.den - 1)),.string (bg (x.den - 1))]:=
  ((((bg1.set 0 (.int .u64 (lo x.num.natAbs))).set 1 (.string (bg x.num.natAbs))).set 2 (.bool (decide (x.num<0)))).set 3 (.int .u64 (lo (x.den - 1)))).set 4 (.string (bg (x.den - 1)))
 have hin:=((((hin1.setCell (p:=⟨G,0,none⟩) hXG (.int .u64 (lo x.num.natAbs))).setCell (p:=⟨G,1,none⟩) hXG (.string (bg x.num.natAbs))).setCell (p:=⟨G,2,none⟩) hXG (.bool (decide (x.num<0)))).setCell (p:=⟨G,3,none⟩) hXG (.int .u64 (lo (x.den - 1)))).setCell (p:=⟨G,4,none⟩) hXG (.string (bg (x.den - 1)))
 clear bp1 bk1 bm1 bg1 hin1 g0 g1 g2 g3 g4 f0 f1 f2 f3 f4
 generalize ((((w'.setCell ⟨G,0,none⟩ (.int .u64 (lo x.num.natAbs))).setCell ⟨G,1,none⟩ (.string (bg x.num.natAbs))).setCell ⟨G,2,none⟩ (.bool (decide (x.num<0)))).setCell ⟨G,3,none⟩ (.int .u64 (lo (x.den - 1)))).setCell ⟨G,4,none⟩ (.string (bg (x.den - 1)))=W2 at *
 have x0:=bx.c0
 have x1:=bx.c1
 have x2:=bx.c2
 have x3:=bx.c3
 have x4:=bx.c4
 by_cases hx0:x=0
 ·have hz:isign x.num=0:=by rw[hx0];rfl
  rw[hz] at h4
  have HX0:=Lib.hid hx0
  clear hz hx0
  go_wp2_with fail
  ((with_reducible refine(h4 _).mono ?_))
  rintro e w' ⟨rfl,hb3⟩
  have bp1:=bp.call hb3
  have bk1:=bk.call hb3
  have bm1:=bm.call hb3
  have hin1:=hin.call hb3
  clear x0 x1 x2 x3 x4 bp bk bm bx hin hb3 h4
  have c2:=bp1.c2
  have k0:=bk1.c0
  have k1:=bk1.c1
  have l0:=bp1.lt
  have l1:=bk1.lt
  go_wp2_with fail
  refine wp_region_flow 5 (by kernel_rfl) (by kernel_rfl) (fun _ _ d _ _ h=>by cases d <;> exact h) ?_;simp only[List.take_succ_cons,List.take_zero,List.drop_succ_cons,List.drop_zero];simp only[putAll,Act.put,List.setIfInBounds_toArray,List.set];(try simp only[Nat.reduceAdd]);(try simp only[Nat.zero_add]);(repeat (first |((with_reducible refine flow_float (v:=?_) ?_ ?_ ?_);rotate_left 1;(focus (with_reducible rfl));(focus (intro u w1 hw hd w2;(try simp only[depH] at hd);(try simp only[ext] at hd);(try simp only[extU] at hd);(try simp only[Nat.reduceAdd] at hd);(try simp only[Nat.reduceEqDiff] at hd);(try simp only[reduceIte] at hd);(try simp only[and_true] at hd);(try simp only[true_and] at hd);go_simp;exact rfl)))|((first |((with_reducible refine flow_pure0 (v:=?_) ?_ ?_ ?_ ?_);rotate_left 1;(focus (with_reducible rfl));(focus rfl))|((with_reducible refine flow_pureg (v:=?_) (j:=?_) (b:=?_) ?_ ?_ ?_ ?_);rotate_left 3;(focus (with_reducible rfl));(focus (intro u w1 hw hd;(try simp only[depH] at hd);(try simp only[ext] at hd);(try simp only[extU] at hd);(try simp only[Nat.reduceAdd] at hd);(try simp only[Nat.reduceEqDiff] at hd);(try simp only[reduceIte] at hd);(try simp only[and_true] at hd);(try simp only[true_and] at hd);simp[yielded,hd];done))));(focus (intro u w1 hw hd;(try simp only[depH] at hd);(try simp only[ext] at hd);(try simp only[extU] at hd);(try simp only[Nat.reduceAdd] at hd);(try simp only[Nat.reduceEqDiff] at hd);(try simp only[reduceIte] at hd);(try simp only[and_true] at hd);(try simp only[true_and] at hd);have hc':=hw.cell;go_simp;exact rfl)))|((with_reducible refine flow_skipg (j:=?_) (b:=?_) ?_ ?_ ?_);rotate_left 2;(focus (with_reducible rfl));(focus (intro u w1 hw hd;(try simp only[depH] at hd);(try simp only[ext] at hd);(try simp only[extU] at hd);(try simp only[Nat.reduceAdd] at hd);(try simp only[Nat.reduceEqDiff] at hd);(try simp only[reduceIte] at hd);(try simp only[and_true] at hd);(try simp only[true_and] at hd);simp[yielded,hd];done)))|((with_reducible refine flow_alloc (t:=?_) (zs:=?_) ?_ ?_ ?_ ?_);rotate_left 2;(focus (with_reducible rfl));(focus rfl);(focus (intro u w1;go_simp;exact rfl)))))
  (try clear hc hf h);intro u w' h ha hdi;replace h:=h.ins;(try simp only[World.size_alloc] at h);(try dsimp only at ha);(repeat rw[World.size_alloc] at ha);(try simp only[allH] at ha);(try simp only[ext] at ha);(try simp only[extU] at ha);(try simp only[Nat.reduceAdd] at ha);(try simp only[Nat.reduceEqDiff] at ha);(try simp only[reduceIte] at ha);(try simp only[and_true] at ha);(try simp only[true_and] at ha);have hc:=h.cell;have hf:=h.frozen
  (try obtain ha:=ha);(try dsimp only);simp only[ha];clear ha hdi
  have bp2:=bp1.below h.bel l0
  have bm2:=bm1.below h.bel bm1.lt
  have hin2:=hin1.call h.bel
  refine wpList_drop_BM rfl _ _ rfl i k rfl rfl bm2 hN hM hi hk ?_
  intro w3 hbm hgr
  have bp3:=bp2.grown hgr (fun h=>hpb (Option.some.inj h))
  have hgw:=gr_after hin2 HXX.out hgr
  have hbb:BB w3 p b (n+1) N M (setF f i k x):=⟨bp3,by rw[HX0.out];exact hbm.mono (Nat.le_succ _)⟩
  clear hc hf h c2 k0 k1 l0 l1 bp1 bk1 bm1 hin1 bp2 bm2 hin2 hbm hgr bp3
  go_frame
  go_wp2_with fail
  go_ret
  exact⟨rfl,hbb,hgw⟩
 ·have hz:(isign x.num == 0)=false:=by
   have:x.num≠0:=fun h=>hx0 (Rat.num_eq_zero.1 h)
   have h0:¬ isign x.num=0:=by unfold isign;split <;> (try split) <;> simp_all
   simpa using h0
  obtain⟨z,hz1⟩:∃ z,z=isign x.num:=⟨_,rfl⟩
  rw[←hz1] at hz h4
  have HX0:=Lib.hid hx0
  clear hz1 hx0
  go_wp2_with fail
  ((with_reducible refine(h4 _).mono ?_))
  rintro e w' ⟨rfl,hb3⟩
  have bp1:=bp.call hb3
  have bk1:=bk.call hb3
  have bm1:=bm.call hb3
  have bx1:=bx.call hb3
  have hin1:=hin.call hb3
  clear x0 x1 x2 x3 x4 bp bk bm bx hin hb3 h4
  have c2:=bp1.c2
  have k0:=bk1.c0
  have k1:=bk1.c1
  have x0:=bx1.c0
  have x1:=bx1.c1
  have x2:=bx1.c2
  have x3:=bx1.c3
  have x4:=bx1.c4
  have l0:=bp1.lt
  have l1:=bk1.lt
  have l2:=bx1.lt
  go_wp2_with fail
  refine wp_region_flow 6 (by kernel_rfl) (by kernel_rfl) (fun _ _ d _ _ h=>by cases d <;> exact h) ?_;simp only[List.take_succ_cons,List.take_zero,List.drop_succ_cons,List.drop_zero];simp only[putAll,Act.put,List.setIfInBounds_toArray,List.set];(try simp only[Nat.reduceAdd]);(try simp only[Nat.zero_add]);(repeat (first |((with_reducible refine flow_float (v:=?_) ?_ ?_ ?_);rotate_left 1;(focus (with_reducible rfl));(focus (intro u w1 hw hd w2;(try simp only[depH] at hd);(try simp only[ext] at hd);(try simp only[extU] at hd);(try simp only[Nat.reduceAdd] at hd);(try simp only[Nat.reduceEqDiff] at hd);(try simp only[reduceIte] at hd);(try simp only[and_true] at hd);(try simp only[true_and] at hd);go_simp;exact rfl)))|((first |((with_reducible refine flow_pure0 (v:=?_) ?_ ?_ ?_ ?_);rotate_left 1;(focus (with_reducible rfl));(focus rfl))|((with_reducible refine flow_pureg (v:=?_) (j:=?_) (b:=?_) ?_ ?_ ?_ ?_);rotate_left 3;(focus (with_reducible rfl));(focus (intro u w1 hw hd;(try simp only[depH] at hd);(try simp only[ext] at hd);(try simp only[extU] at hd);(try simp only[Nat.reduceAdd] at hd);(try simp only[Nat.reduceEqDiff] at hd);(try simp only[reduceIte] at hd);(try simp only[and_true] at hd);(try simp only[true_and] at hd);simp[yielded,hd];done))));(focus (intro u w1 hw hd;(try simp only[depH] at hd);(try simp only[ext] at hd);(try simp only[extU] at hd);(try simp only[Nat.reduceAdd] at hd);(try simp only[Nat.reduceEqDiff] at hd);(try simp only[reduceIte] at hd);(try simp only[and_true] at hd);(try simp only[true_and] at hd);have hc':=hw.cell;go_simp;exact rfl)))|((with_reducible refine flow_skipg (j:=?_) (b:=?_) ?_ ?_ ?_);rotate_left 2;(focus (with_reducible rfl));(focus (intro u w1 hw hd;(try simp only[depH] at hd);(try simp only[ext] at hd);(try simp only[extU] at hd);(try simp only[Nat.reduceAdd] at hd);(try simp only[Nat.reduceEqDiff] at hd);(try simp only[reduceIte] at hd);(try simp only[and_true] at hd);(try simp only[true_and] at hd);simp[yielded,hd];done)))|((with_reducible refine flow_alloc (t:=?_) (zs:=?_) ?_ ?_ ?_ ?_);rotate_left 2;(focus (with_reducible rfl));(focus rfl);(focus (intro u w1;go_simp;exact rfl)))))
  (try clear hc hf h);intro u w' h ha hdi;replace h:=h.ins;(try simp only[World.size_alloc] at h);(try dsimp only at ha);(repeat rw[World.size_alloc] at ha);(try simp only[allH] at ha);(try simp only[ext] at ha);(try simp only[extU] at ha);(try simp only[Nat.reduceAdd] at ha);(try simp only[Nat.reduceEqDiff] at ha);(try simp only[reduceIte] at ha);(try simp only[and_true] at ha);(try simp only[true_and] at ha);have hc:=h.cell;have hf:=h.frozen
  (try obtain ha:=ha);(try dsimp only);simp only[ha];clear ha hdi
  have bp2:=bp1.below h.bel l0
  have bm2:=bm1.below h.bel bm1.lt
  have hin2:=hin1.call h.bel
  refine wpList_update_BM rfl _ _ _ rfl i k x rfl rfl rfl bm2 hN hM hi hk HX0.out hn ?_
  intro w3 hbm hgr
  have bp3:=bp2.grown hgr (fun h=>hpb (Option.some.inj h))
  have hgw:=gr_after hin2 HXX.out hgr
  have hbb:BB w3 p b (n+1) N M (setF f i k x):=⟨bp3,hbm⟩
  clear hc hf h c2 k0 k1 l0 l1 l2 x0 x1 x2 x3 x4 bp1 bk1 bm1 bx1 hin1 bp2 bm2 hin2 hbm hgr bp3
  go_frame
  go_wp2_with fail
  go_ret
  exact⟨rfl,hbb,hgw⟩
end Gus
end
