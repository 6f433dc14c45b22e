/- Proved here: parts of the proof: KBld KBldB KMatA KSome KSpB. Conditions: those that each theorem states. -/
import Derived.Test.YthblojaeoiemmaaGreatDoorKFracDQ
import Derived.IntWalk
import Derived.Deep.CutBlock
import Derived.WalkMore
section
namespace Gus
open Go Go.RowKit Go.Proofs Go.ChangeMaps Go.MapKept
theorem gr_of_turned {w w':World} {b:Nat} (h:w.mapTurned w' b):w.grownBy w' (some b):=by
 obtain⟨es,clock,es',clock',hb,rfl⟩:=h
 exact⟨rfl,rfl,rfl,by simp[setBlock],fun i _ hi=>heap_setBlock_other hb _ (fun e=>hi (by rw[e]))⟩
section
variable {ops:Array Oper} {rest:List Oper} {o:Oper} {a:Act} {Q:Exit→Act→World→Prop} {w:World} {b n N M:Nat} {f:Nat→Nat→Rat}
theorem wpList_update_BM (hg:o.guard=none) (m x v:Operand) (hop:o.op=Op.mapUpdate 174 m x v) (i k:Nat) (q:Rat)
  (hm:a.eval m=.map (some b)) (hx:a.eval x=posV i k) (hv:a.eval v=fracV q) (h:BM w b n N M f) (hN:N≤2048) (hM:M≤2048) (hi:i<N) (hk:k<M) (hq:q≠0) (hn:n<maxLen)
  (hK:∀ w',BM w' b (n+1) N M (setF f i k q)→w.grownBy w' (some b)→wpList Tryz.prog ops Q rest (a.put o.dst undef) w'):wpList Tryz.prog ops Q (o :: rest) a w:=by
 refine wpList_plain hg fun K' hK'=>?_
 obtain⟨w',hrun,r1,r2⟩:=h.update hN hM hi hk hq hn
 unfold Oper.wp
 simp[execOp,hop,hm,hx,hv,hrun,Result.andThen]
 exact hK' _ _ (hK w' r1 r2)
theorem wpList_drop_BM (hg:o.guard=none) (m x:Operand) (hop:o.op=Op.call { callee:=Callee.builtin Builtin.delete,args:=#[m,x],argTypes:=#[174,178] }) (i k:Nat)
  (hm:a.eval m=.map (some b)) (hx:a.eval x=posV i k) (h:BM w b n N M f) (hN:N≤2048) (hM:M≤2048) (hi:i<N) (hk:k<M)
  (hK:∀ w',BM w' b n N M (setF f i k 0)→w.grownBy w' (some b)→wpList Tryz.prog ops Q rest (a.put o.dst (.tuple #[])) w'):wpList Tryz.prog ops Q (o :: rest) a w:=by
 refine wpList_plain hg fun K' hK'=>?_
 obtain⟨w',hrun,r1,r2⟩:=h.drop hN hM hi hk o.type
 unfold Oper.wp
 simp[execOp,hop,resolve,invoke,builtin,hm,hx,hrun,Result.andThen]
 exact hK' _ _ (hK w' r1 (gr_of_turned r2))
end
def BB (w:World) (p b n N M:Nat) (f:Nat→Nat→Rat):Prop:=Bx w p 176 [.int .i64 N,.int .i64 M,.map (some b)]∧BM w b n N M f
set_option maxRecDepth 100000 in
theorem begun_any (N M:Nat) (w:World) :
  Calls Tryz.prog 104 #[.int .i64 N,.int .i64 M] w fun e w'=>e=.returned (.pointer (some ⟨w.heap.size+1,0,none⟩))∧BB w' (w.heap.size+1) w.heap.size 0 N M (fun _ _=>0)∧Below w.heap.size w w':=by
 have hmk:=fun w:World=>run_makeMap (P:=Tryz.prog) 174 w
 go_enter Tryz.func104,Tryz.ntmps104
 go_wp2_with fail
 go_ret
 refine⟨rfl,⟨Bx.new_at _ _ _ (by simp),(BM.new w N M).alloc _⟩,by(refine In.bel ?_;(repeat (first |(refine In.setCell ?_ (by first | omega |(simp;done)|(simp;omega)) _)|(refine In.alloc ?_ _)|(refine In.drew ?_)));(first | exact In.self _ |(refine In.out h ?_ (by first | omega |(simp;done)|(simp;omega));(repeat (first |(refine In.setCell ?_ (by first | omega |(simp;done)|(simp;omega)) _)|(refine In.alloc ?_ _)|(refine In.drew ?_)));exact In.self _)))⟩
theorem gr_after {w w1 w2:World} {X b:Nat} (h:In X w w1) (hX:X=w.heap.size) (hg:w1.grownBy w2 (some b)):w.grownBy w2 (some b):=
 ⟨hg.os.trans h.bel.os,hg.tape.trans h.bel.tape,hg.output.trans h.bel.output,Nat.le_trans h.bel.size hg.size,fun j hj hne=>(hg.block j (Nat.lt_of_lt_of_le hj h.bel.size) hne).trans (h.bel.block j (by omega))⟩
theorem BM.mono {w:World} {b n n' N M:Nat} {f:Nat→Nat→Rat} (h:BM w b n N M f) (hn:n≤n'):BM w b n' N M f:=let ⟨D,h1,h2⟩:=h;⟨D,h1.mono hn,h2⟩
set_option maxRecDepth 100000 in
set_option maxHeartbeats 2000000 in
theorem badd_in {s j:Nat} (w:World) (p b n N M:Nat) (f:Nat→Nat→Rat) (i k:Nat) (q:Rat) (hB:BB w p b n N M f) (hi:i<N) (hk:k<M) (hN:N≤2048) (hM:M≤2048) (hn:n<maxLen) (hpb:p≠b)
  (hs:SzK s (f i k)) (hj:SzK j q) (hsj:s+j+1<17592186044416) :
  Calls Tryz.prog 58 #[.pointer (some ⟨p,0,none⟩),.int .i64 i,.int .i64 k,fracV q] w fun e w'=>e=.returned (.int .i64 0)∧BB w' p b (n+1) N M (setF f i k (f i k+q))∧w.grownBy w' (some b):=by
 have c0:=hB.1.c0
 have c1:=hB.1.c1
 have c2:=hB.1.c2
 have hp:=hB.1.lt
 have hb:=hB.2.lt
 have h1:=has_any i N
 have h2:=has_any k M
 rw[show(decide ((0:Int)≤(i:Int)) && decide ((i:Int)<(N:Int)))=true by simp;omega] at h1
 rw[show(decide ((0:Int)≤(k:Int)) && decide ((k:Int)<(M:Int)))=true by simp;omega] at h2
 have h3:=fadd_any (f i k) q hs hj hsj
 have h4:=fsign_any (f i k+q)
 have hlk:∀ w1:World,St w w1→(Instr.lookup 174 (.map (some b)) (posV i k) false).run Tryz.prog w1=.ok (fracV (f i k)) w1:=fun w1 hs=>(hB.2.call hs).lookup hN hM hi hk
 have HLK:=Lib.hid hlk
 obtain⟨x,hx⟩:∃ x,x=f i k+q:=⟨_,rfl⟩
 rw[←hx] at h3 h4 ⊢
 obtain⟨y,hy⟩:∃ y,y=f i k:=⟨_,rfl⟩
 rw[←hy] at h3 HLK
 have HX:=Lib.hid hx
 have HB:=Lib.hid hB
 clear hlk hx hy hB hs hj hsj
 go_enter Tryz.func58,Tryz.ntmps58
 go_wp2_with fail
 (((with_reducible refine(h1 _).mono ?_));rintro e w' ⟨rfl,hb⟩;have h:=(In.self _).call hb;(try simp only[World.size_alloc] at h);(try simp only[World.size_setCell] at h);clear hb;have hc:=h.cell;have hf:=h.frozen)
 go_wp2_with fail
 (((with_reducible refine(h2 _).mono ?_));rintro e w' ⟨rfl,hb⟩;replace h:=In.call (by first | exact h | exact h.drew | exact h.alloc _ | exact(h.alloc _).alloc _ | exact((h.alloc _).alloc _).alloc _) hb;clear hb hc hf;have hc:=h.cell;have hf:=h.frozen)
 have bq:=(Bx.new_at w #[.int .u64 (lo q.num.natAbs),.string (bg q.num.natAbs),.bool (decide (q.num<0)),.int .u64 (lo (q.den - 1)),.string (bg (q.den - 1))] 72 rfl).below h.bel (Nat.lt_succ_self _)
 have hin:=h.out ((In.self w).alloc _) (Nat.le_succ _)
 clear hc hf h h1 h2
 go_upto_region 6 with fail
 obtain⟨X,hX⟩:∃ X,X=w.heap.size:=⟨_,rfl⟩
 obtain⟨P,hP⟩:∃ P,P=w'.heap.size:=⟨_,rfl⟩
 rw[←hX] at bq hin hp hb ⊢
 rw[←hP]
 have hXP:X<P:=by rw[hP];exact bq.lt
 have bp0:=(HB.out.1.below hin.bel hp).alloc (.cells #[.int .i64 i,.int .i64 k] 178)
 have bm0:=(HB.out.2.below hin.bel hb).alloc (.cells #[.int .i64 i,.int .i64 k] 178)
 have bq0:=bq.alloc (.cells #[.int .i64 i,.int .i64 k] 178)
 have bk0:=Bx.new_at w' #[.int .i64 i,.int .i64 k] 178 hP
 have hin0:=hin.alloc (.cells #[.int .i64 i,.int .i64 k] 178)
 have HXX:=Lib.hid hX
 have hlk:=fun w1 (hs:St (w'.alloc (.cells #[.int .i64 i,.int .i64 k] 178)) w1)=>HLK.out w1 (by rw[St,←HXX.out];exact hin0.bel.trans (Below.mono hs (by have:=hin0.siz;exact this)))
 clear bq hin hX hP
 generalize w'.alloc (.cells #[.int .i64 i,.int .i64 k] 178)=W1 at *
 clear c0 c1 c2
 have c0:=bp0.c0
 have c1:=bp0.c1
 have c2:=bp0.c2
 have q0:=bq0.c0
 have q1:=bq0.c1
 have q2:=bq0.c2
 have q3:=bq0.c3
 have q4:=bq0.c4
 have k0:=bk0.c0
 have k1:=bk0.c1
 have l0:=bp0.lt
 have l1:=bq0.lt
 have l2:=bk0.lt
 have HL2:=Lib.hid hlk
 clear hlk
 refine wp_region_flow 9 (by kernel_rfl) (by kernel_rfl) (fun _ _ d _ _ h=>by cases d <;> exact h) ?_;simp only[List.take_succ_cons,List.take_zero,List.drop_succ_cons,List.drop_zero];simp only[putAll,Act.put,List.setIfInBounds_toArray,List.set];(try simp only[Nat.reduceAdd]);(try simp only[Nat.zero_add]);(repeat (first |((with_reducible refine flow_float (v:=?_) ?_ ?_ ?_);rotate_left 1;(focus (with_reducible rfl));(focus (intro u w1 hw hd w2;(try simp only[depH] at hd);(try simp only[ext] at hd);(try simp only[extU] at hd);(try simp only[Nat.reduceAdd] at hd);(try simp only[Nat.reduceEqDiff] at hd);(try simp only[reduceIte] at hd);(try simp only[and_true] at hd);(try simp only[true_and] at hd);go_simp;exact rfl)))|((first |((with_reducible refine flow_pure0 (v:=?_) ?_ ?_ ?_ ?_);rotate_left 1;(focus (with_reducible rfl));(focus rfl))|((with_reducible refine flow_pureg (v:=?_) (j:=?_) (b:=?_) ?_ ?_ ?_ ?_);rotate_left 3;(focus (with_reducible rfl));(focus (intro u w1 hw hd;(try simp only[depH] at hd);(try simp only[ext] at hd);(try simp only[extU] at hd);(try simp only[Nat.reduceAdd] at hd);(try simp only[Nat.reduceEqDiff] at hd);(try simp only[reduceIte] at hd);(try simp only[and_true] at hd);(try simp only[true_and] at hd);simp[yielded,hd];done))));(focus (intro u w1 hw hd;(try simp only[depH] at hd);(try simp only[ext] at hd);(try simp only[extU] at hd);(try simp only[Nat.reduceAdd] at hd);(try simp only[Nat.reduceEqDiff] at hd);(try simp only[reduceIte] at hd);(try simp only[and_true] at hd);(try simp only[true_and] at hd);have hc':=hw.cell;have hl2:=HL2.out w1 hw;first |(go_simp;exact rfl)|(go_simp;go_at_call 74;((with_reducible refine(h3 _).mono ?_));rintro e w'' ⟨rfl,hb⟩;refine⟨?_,hb⟩;exact rfl))))|((with_reducible refine flow_skipg (j:=?_) (b:=?_) ?_ ?_ ?_);rotate_left 2;(focus (with_reducible rfl));(focus (intro u w1 hw hd;(try simp only[depH] at hd);(try simp only[ext] at hd);(try simp only[extU] at hd);(try simp only[Nat.reduceAdd] at hd);(try simp only[Nat.reduceEqDiff] at hd);(try simp only[reduceIte] at hd);(try simp only[and_true] at hd);(try simp only[true_and] at hd);simp[yielded,hd];done)))|((with_reducible refine flow_alloc (t:=?_) (zs:=?_) ?_ ?_ ?_ ?_);rotate_left 2;(focus (with_reducible rfl));(focus rfl);(focus (intro u w1;go_simp;exact rfl)))))
 (try clear hc hf h);intro u w' h ha hdi;replace h:=h.ins;(try simp only[World.size_alloc] at h);(try dsimp only at ha);(repeat rw[World.size_alloc] at ha);(try simp only[allH] at ha);(try simp only[ext] at ha);(try simp only[extU] at ha);(try simp only[Nat.reduceAdd] at ha);(try simp only[Nat.reduceEqDiff] at ha);(try simp only[reduceIte] at ha);(try simp only[and_true] at ha);(try simp only[true_and] at ha);have hc:=h.cell;have hf:=h.frozen
 obtain⟨ha,G,hu,hWG,bg1⟩:=ha
 (try obtain ha:=ha);(try dsimp only);simp only[ha,hu];clear ha hdi hu
 have bp1:=bp0.below h.bel l0
 have bk1:=bk0.below h.bel l2
 have bm1:=bm0.below h.bel bm0.lt
 have nP:¬ G=P:=by omega
 have np:¬ G=p:=by omega
 have nb:¬ G=b:=by have:=bm0.lt;omega
 have hXG:X≤G:=by omega
 have hin1:=hin0.call h.bel
 have g0:=bg1.c0
 have g1:=bg1.c1
 have g2:=bg1.c2
 have g3:=bg1.c3
 have g4:=bg1.c4
 have f0:=bg1.frozen 0
 have f1:=bg1.frozen 1
 have f2:=bg1.frozen 2
 have f3:=bg1.frozen 3
 have f4:=bg1.frozen 4
 clear hc hf h hWG l0 l1 l2 k0 k1 q0 q1 q2 q3 q4 c0 c1 c2 bp0 bm0 bq0 bk0 hin0 HL2 HLK
 go_upto_region 7 with fail
 have bp:=((((bp1.other (a:=⟨G,0,none⟩) np (.int .u64 (lo x.num.natAbs))).other (a:=⟨G,1,none⟩) np (.string (bg x.num.natAbs))).other (a:=⟨G,2,none⟩) np (.bool (decide (x.num<0)))).other (a:=⟨G,3,none⟩) np (.int .u64 (lo (x.den - 1)))).other (a:=⟨G,4,none⟩) np (.string (bg (x.den - 1)))
 have bk:=((((bk1.other (a:=⟨G,0,none⟩) nP (.int .u64 (lo x.num.natAbs))).other (a:=⟨G,1,none⟩) nP (.string (bg x.num.natAbs))).other (a:=⟨G,2,none⟩) nP (.bool (decide (x.num<0)))).other (a:=⟨G,3,none⟩) nP (.int .u64 (lo (x.den - 1)))).other (a:=⟨G,4,none⟩) nP (.string (bg (x.den - 1)))
 have bm:=((((bm1.other (a:=⟨G,0,none⟩) nb (.int .u64 (lo x.num.natAbs))).other (a:=⟨G,1,none⟩) nb (.string (bg x.num.natAbs))).other (a:=⟨G,2,none⟩) nb (.bool (decide (x.num<0)))).other (a:=⟨G,3,none⟩) nb (.int .u64 (lo (x.den - 1)))).other (a:=⟨G,4,none⟩) nb (.string (bg (x.den - 1)))
 have bx:Bx _ G 72 [.int .u64 (lo x.num.natAbs),.string (bg x.num.natAbs),.bool (decide (x.num<0)),.int .u64 (lo (x.den - 1)),.string (bg (x.den - 1))]:=
  ((((bg1.set 0 (.int .u64 (lo x.num.natAbs))).set 1 (.string (bg x.num.natAbs))).set 2 (.bool (decide (x.num<0)))).set 3 (.int .u64 (lo (x.den - 1)))).set 4 (.string (bg (x.den - 1)))
 have hin:=((((hin1.setCell (p:=⟨G,0,none⟩) hXG (.int .u64 (lo x.num.natAbs))).setCell (p:=⟨G,1,none⟩) hXG (.string (bg x.num.natAbs))).setCell (p:=⟨G,2,none⟩) hXG (.bool (decide (x.num<0)))).setCell (p:=⟨G,3,none⟩) hXG (.int .u64 (lo (x.den - 1)))).setCell (p:=⟨G,4,none⟩) hXG (.string (bg (x.den - 1)))
 clear bp1 bk1 bm1 bg1 hin1 g0 g1 g2 g3 g4 f0 f1 f2 f3 f4
 generalize ((((w'.setCell ⟨G,0,none⟩ (.int .u64 (lo x.num.natAbs))).setCell ⟨G,1,none⟩ (.string (bg x.num.natAbs))).setCell ⟨G,2,none⟩ (.bool (decide (x.num<0)))).setCell ⟨G,3,none⟩ (.int .u64 (lo (x.den - 1)))).setCell ⟨G,4,none⟩ (.string (bg (x.den - 1)))=W2 at *
 have x0:=bx.c0
 have x1:=bx.c1
 have x2:=bx.c2
 have x3:=bx.c3
 have x4:=bx.c4
 by_cases hx0:x=0
 ·have hz:isign x.num=0:=by rw[hx0];rfl
  rw[hz] at h4
  have HX0:=Lib.hid hx0
  clear hz hx0
  go_wp2_with fail
  ((with_reducible refine(h4 _).mono ?_))
  rintro e w' ⟨rfl,hb3⟩
  have bp1:=bp.call hb3
  have bk1:=bk.call hb3
  have bm1:=bm.call hb3
  have hin1:=hin.call hb3
  clear x0 x1 x2 x3 x4 bp bk bm bx hin hb3 h4
  have c2:=bp1.c2
  have k0:=bk1.c0
  have k1:=bk1.c1
  have l0:=bp1.lt
  have l1:=bk1.lt
  go_wp2_with fail
  refine wp_region_flow 5 (by kernel_rfl) (by kernel_rfl) (fun _ _ d _ _ h=>by cases d <;> exact h) ?_;simp only[List.take_succ_cons,List.take_zero,List.drop_succ_cons,List.drop_zero];simp only[putAll,Act.put,List.setIfInBounds_toArray,List.set];(try simp only[Nat.reduceAdd]);(try simp only[Nat.zero_add]);(repeat (first |((with_reducible refine flow_float (v:=?_) ?_ ?_ ?_);rotate_left 1;(focus (with_reducible rfl));(focus (intro u w1 hw hd w2;(try simp only[depH] at hd);(try simp only[ext] at hd);(try simp only[extU] at hd);(try simp only[Nat.reduceAdd] at hd);(try simp only[Nat.reduceEqDiff] at hd);(try simp only[reduceIte] at hd);(try simp only[and_true] at hd);(try simp only[true_and] at hd);go_simp;exact rfl)))|((first |((with_reducible refine flow_pure0 (v:=?_) ?_ ?_ ?_ ?_);rotate_left 1;(focus (with_reducible rfl));(focus rfl))|((with_reducible refine flow_pureg (v:=?_) (j:=?_) (b:=?_) ?_ ?_ ?_ ?_);rotate_left 3;(focus (with_reducible rfl));(focus (intro u w1 hw hd;(try simp only[depH] at hd);(try simp only[ext] at hd);(try simp only[extU] at hd);(try simp only[Nat.reduceAdd] at hd);(try simp only[Nat.reduceEqDiff] at hd);(try simp only[reduceIte] at hd);(try simp only[and_true] at hd);(try simp only[true_and] at hd);simp[yielded,hd];done))));(focus (intro u w1 hw hd;(try simp only[depH] at hd);(try simp only[ext] at hd);(try simp only[extU] at hd);(try simp only[Nat.reduceAdd] at hd);(try simp only[Nat.reduceEqDiff] at hd);(try simp only[reduceIte] at hd);(try simp only[and_true] at hd);(try simp only[true_and] at hd);have hc':=hw.cell;go_simp;exact rfl)))|((with_reducible refine flow_skipg (j:=?_) (b:=?_) ?_ ?_ ?_);rotate_left 2;(focus (with_reducible rfl));(focus (intro u w1 hw hd;(try simp only[depH] at hd);(try simp only[ext] at hd);(try simp only[extU] at hd);(try simp only[Nat.reduceAdd] at hd);(try simp only[Nat.reduceEqDiff] at hd);(try simp only[reduceIte] at hd);(try simp only[and_true] at hd);(try simp only[true_and] at hd);simp[yielded,hd];done)))|((with_reducible refine flow_alloc (t:=?_) (zs:=?_) ?_ ?_ ?_ ?_);rotate_left 2;(focus (with_reducible rfl));(focus rfl);(focus (intro u w1;go_simp;exact rfl)))))
  (try clear hc hf h);intro u w' h ha hdi;replace h:=h.ins;(try simp only[World.size_alloc] at h);(try dsimp only at ha);(repeat rw[World.size_alloc] at ha);(try simp only[allH] at ha);(try simp only[ext] at ha);(try simp only[extU] at ha);(try simp only[Nat.reduceAdd] at ha);(try simp only[Nat.reduceEqDiff] at ha);(try simp only[reduceIte] at ha);(try simp only[and_true] at ha);(try simp only[true_and] at ha);have hc:=h.cell;have hf:=h.frozen
  (try obtain ha:=ha);(try dsimp only);simp only[ha];clear ha hdi
  have bp2:=bp1.below h.bel l0
  have bm2:=bm1.below h.bel bm1.lt
  have hin2:=hin1.call h.bel
  refine wpList_drop_BM rfl _ _ rfl i k rfl rfl bm2 hN hM hi hk ?_
  intro w3 hbm hgr
  have bp3:=bp2.grown hgr (fun h=>hpb (Option.some.inj h))
  have hgw:=gr_after hin2 HXX.out hgr
  have hbb:BB w3 p b (n+1) N M (setF f i k x):=⟨bp3,by rw[HX0.out];exact hbm.mono (Nat.le_succ _)⟩
  clear hc hf h c2 k0 k1 l0 l1 bp1 bk1 bm1 hin1 bp2 bm2 hin2 hbm hgr bp3
  go_frame
  go_wp2_with fail
  go_ret
  exact⟨rfl,hbb,hgw⟩
 ·have hz:(isign x.num == 0)=false:=by
   have:x.num≠0:=fun h=>hx0 (Rat.num_eq_zero.1 h)
   have h0:¬ isign x.num=0:=by unfold isign;split <;> (try split) <;> simp_all
   simpa using h0
  obtain⟨z,hz1⟩:∃ z,z=isign x.num:=⟨_,rfl⟩
  rw[←hz1] at hz h4
  have HX0:=Lib.hid hx0
  clear hz1 hx0
  go_wp2_with fail
  ((with_reducible refine(h4 _).mono ?_))
  rintro e w' ⟨rfl,hb3⟩
  have bp1:=bp.call hb3
  have bk1:=bk.call hb3
  have bm1:=bm.call hb3
  have bx1:=bx.call hb3
  have hin1:=hin.call hb3
  clear x0 x1 x2 x3 x4 bp bk bm bx hin hb3 h4
  have c2:=bp1.c2
  have k0:=bk1.c0
  have k1:=bk1.c1
  have x0:=bx1.c0
  have x1:=bx1.c1
  have x2:=bx1.c2
  have x3:=bx1.c3
  have x4:=bx1.c4
  have l0:=bp1.lt
  have l1:=bk1.lt
  have l2:=bx1.lt
  go_wp2_with fail
  refine wp_region_flow 6 (by kernel_rfl) (by kernel_rfl) (fun _ _ d _ _ h=>by cases d <;> exact h) ?_;simp only[List.take_succ_cons,List.take_zero,List.drop_succ_cons,List.drop_zero];simp only[putAll,Act.put,List.setIfInBounds_toArray,List.set];(try simp only[Nat.reduceAdd]);(try simp only[Nat.zero_add]);(repeat (first |((with_reducible refine flow_float (v:=?_) ?_ ?_ ?_);rotate_left 1;(focus (with_reducible rfl));(focus (intro u w1 hw hd w2;(try simp only[depH] at hd);(try simp only[ext] at hd);(try simp only[extU] at hd);(try simp only[Nat.reduceAdd] at hd);(try simp only[Nat.reduceEqDiff] at hd);(try simp only[reduceIte] at hd);(try simp only[and_true] at hd);(try simp only[true_and] at hd);go_simp;exact rfl)))|((first |((with_reducible refine flow_pure0 (v:=?_) ?_ ?_ ?_ ?_);rotate_left 1;(focus (with_reducible rfl));(focus rfl))|((with_reducible refine flow_pureg (v:=?_) (j:=?_) (b:=?_) ?_ ?_ ?_ ?_);rotate_left 3;(focus (with_reducible rfl));(focus (intro u w1 hw hd;(try simp only[depH] at hd);(try simp only[ext] at hd);(try simp only[extU] at hd);(try simp only[Nat.reduceAdd] at hd);(try simp only[Nat.reduceEqDiff] at hd);(try simp only[reduceIte] at hd);(try simp only[and_true] at hd);(try simp only[true_and] at hd);simp[yielded,hd];done))));(focus (intro u w1 hw hd;(try simp only[depH] at hd);(try simp only[ext] at hd);(try simp only[extU] at hd);(try simp only[Nat.reduceAdd] at hd);(try simp only[Nat.reduceEqDiff] at hd);(try simp only[reduceIte] at hd);(try simp only[and_true] at hd);(try simp only[true_and] at hd);have hc':=hw.cell;go_simp;exact rfl)))|((with_reducible refine flow_skipg (j:=?_) (b:=?_) ?_ ?_ ?_);rotate_left 2;(focus (with_reducible rfl));(focus (intro u w1 hw hd;(try simp only[depH] at hd);(try simp only[ext] at hd);(try simp only[extU] at hd);(try simp only[Nat.reduceAdd] at hd);(try simp only[Nat.reduceEqDiff] at hd);(try simp only[reduceIte] at hd);(try simp only[and_true] at hd);(try simp only[true_and] at hd);simp[yielded,hd];done)))|((with_reducible refine flow_alloc (t:=?_) (zs:=?_) ?_ ?_ ?_ ?_);rotate_left 2;(focus (with_reducible rfl));(focus rfl);(focus (intro u w1;go_simp;exact rfl)))))
  (try clear hc hf h);intro u w' h ha hdi;replace h:=h.ins;(try simp only[World.size_alloc] at h);(try dsimp only at ha);(repeat rw[World.size_alloc] at ha);(try simp only[allH] at ha);(try simp only[ext] at ha);(try simp only[extU] at ha);(try simp only[Nat.reduceAdd] at ha);(try simp only[Nat.reduceEqDiff] at ha);(try simp only[reduceIte] at ha);(try simp only[and_true] at ha);(try simp only[true_and] at ha);have hc:=h.cell;have hf:=h.frozen
  (try obtain ha:=ha);(try dsimp only);simp only[ha];clear ha hdi
  have bp2:=bp1.below h.bel l0
  have bm2:=bm1.below h.bel bm1.lt
  have hin2:=hin1.call h.bel
  refine wpList_update_BM rfl _ _ _ rfl i k x rfl rfl rfl bm2 hN hM hi hk HX0.out hn ?_
  intro w3 hbm hgr
  have bp3:=bp2.grown hgr (fun h=>hpb (Option.some.inj h))
  have hgw:=gr_after hin2 HXX.out hgr
  have hbb:BB w3 p b (n+1) N M (setF f i k x):=⟨bp3,hbm⟩
  clear hc hf h c2 k0 k1 l0 l1 l2 x0 x1 x2 x3 x4 bp1 bk1 bm1 bx1 hin1 bp2 bm2 hin2 hbm hgr bp3
  go_frame
  go_wp2_with fail
  go_ret
  exact⟨rfl,hbb,hgw⟩
end Gus
end
section
namespace Gus
open Go Go.RowKit Go.Proofs Go.ChangeMaps Go.MapKept
set_option maxRecDepth 100000 in
theorem new_ok (N M:Nat) (hN:N≤2048) (hM:M≤2048) (w:World) :
  Calls Tryz.prog 57 #[.int .i64 N,.int .i64 M] w fun e w'=>∃ b,e=.returned (.tuple #[.pointer (some ⟨b+1,0,none⟩),.int .i64 0])∧w.heap.size≤b∧BB w' (b+1) b 0 N M (fun _ _=>0)∧Below w.heap.size w w':=by
 have h1:=sides_any N M
 rw[show sidesE N M=0 by unfold sidesE;rw[if_neg (by omega),if_neg (by omega)]] at h1
 have h2:=begun_any N M
 go_enter Tryz.func57,Tryz.ntmps57
 go_wp2_with fail
 (((with_reducible refine(h1 _).mono ?_));rintro e w' ⟨rfl,hb⟩;have h:=tsz ((In.self _).call hb);clear hb;have hc:=h.cell;have hf:=h.frozen)
 go_wp2_with fail
 ((with_reducible refine(h2 _).mono ?_))
 rintro e w2 ⟨rfl,hb,hbel⟩
 have hsz:=h.siz
 have hin:=h.call hbel
 obtain⟨B,hB⟩:∃ B,B=w'.heap.size:=⟨_,rfl⟩
 rw[←hB] at hb hsz ⊢
 clear hB hbel h hc hf h1 h2
 go_wp2_with fail
 go_ret2
 exact⟨B,rfl,hsz,hb,hin.bel⟩
end Gus
end
section
namespace Gus
open Go Go.RowKit Go.Proofs
set_option maxRecDepth 100000 in
set_option maxHeartbeats 1000000 in
theorem msides_any (n m:Int) (w:World) :
  Calls Tryz.prog 115 #[.int .i64 n,.int .i64 m] w fun e w'=>e=.returned (.int .i64 (sidesE n m))∧Below w.heap.size w w':=by
 unfold sidesE
 by_cases h1:n<0 <;> by_cases h2:m<0 <;> by_cases h3:2048<n <;> by_cases h4:2048<m <;> simp only[h1,h2,h3,h4,or_true,or_false,if_true,if_false,or_self]
 all_goals
  go_enter Tryz.func115,Tryz.ntmps115
  go_wp2_with fail
  go_ret
  exact⟨rfl,by exact tfin⟩
theorem sidesE_zero {n m:Int} (h:sidesE n m=0):0≤n∧n≤2048∧0≤m∧m≤2048:=by
 unfold sidesE at h
 split at h
 ·omega
 ·split at h <;> omega
def checkM (n m:Int) (len:Nat):Int:=if sidesE n m=0 then (if (len:Int)=n*m then 0 else 1) else sidesE n m
set_option maxRecDepth 100000 in
set_option maxHeartbeats 1000000 in
theorem mcheck_any (n m:Int) (a:Option Addr) (len cap:Nat) (w:World) :
  Calls Tryz.prog 95 #[.agg #[.int .i64 n,.int .i64 m,.slice a len cap]] w fun e w'=>e=.returned (.int .i64 (checkM n m len))∧Below w.heap.size w w':=by
 have h1:=msides_any n m
 unfold checkM
 by_cases hs:sidesE n m=0
 ·rw[if_pos hs]
  obtain⟨a1,a2,a3,a4⟩:=sidesE_zero hs
  rw[hs] at h1
  obtain⟨x,hx⟩:∃ x,x=n*m:=⟨_,rfl⟩
  have hx0:0≤x:=by rw[hx];exact Int.mul_nonneg a1 a3
  have hx1:x≤4194304:=by rw[hx];exact Int.mul_le_mul a2 a4 a3 (by decide)
  have hw:IntKind.i64.wrap (n*m)=x:=by rw[←hx];exact IntWalk.i64_in _ (by omega)
  rw[←hx]
  by_cases hl:(len:Int)=x
  ·rw[if_pos hl]
   have hb:((len:Int) != x)=false:=by simp[hl]
   clear hl hx hx0 hx1 a1 a2 a3 a4 hs
   go_enter Tryz.func95,Tryz.ntmps95
   go_wp2_with fail
   (((with_reducible refine(h1 _).mono ?_));rintro e w' ⟨rfl,hb⟩;have h:=tsz ((In.self _).call hb);clear hb;have hc:=h.cell;have hf:=h.frozen)
   go_wp2_with fail
   go_ret
   exact⟨rfl,by exact tfin⟩
  ·rw[if_neg hl]
   have hb:((len:Int) != x)=true:=by simp[hl]
   clear hl hx hx0 hx1 a1 a2 a3 a4 hs
   go_enter Tryz.func95,Tryz.ntmps95
   go_wp2_with fail
   (((with_reducible refine(h1 _).mono ?_));rintro e w' ⟨rfl,hb⟩;have h:=tsz ((In.self _).call hb);clear hb;have hc:=h.cell;have hf:=h.frozen)
   go_wp2_with fail
   go_ret
   exact⟨rfl,by exact tfin⟩
 ·rw[if_neg hs]
  obtain⟨s,hs1⟩:∃ s,s=sidesE n m:=⟨_,rfl⟩
  rw[←hs1] at h1 hs ⊢
  have hb:(s != 0)=true:=by simpa using hs
  clear hs hs1
  go_enter Tryz.func95,Tryz.ntmps95
  go_wp2_with fail
  (((with_reducible refine(h1 _).mono ?_));rintro e w' ⟨rfl,hb⟩;have h:=tsz ((In.self _).call hb);clear hb;have hc:=h.cell;have hf:=h.frozen)
  go_wp2_with fail
  go_ret
  exact⟨rfl,by exact tfin⟩
end Gus
end
section
namespace Gus
open Go Go.RowKit Go.Proofs
def fcs (q:Rat):List Value:=[.int .u64 (lo q.num.natAbs),.string (bg q.num.natAbs),.bool (decide (q.num<0)),.int .u64 (lo (q.den - 1)),.string (bg (q.den - 1))]
def fcl (qs:List Rat):List Value:=qs.flatMap fcs
theorem fcl_length (qs:List Rat):(fcl qs).length=qs.length*5:=by
 unfold fcl
 induction qs with
 | nil=>rfl
 | cons q qs ih=>rw[List.flatMap_cons,List.length_append,ih,List.length_cons];simp[fcs];omega
def QAt (w:World) (a:Option Addr) (qs:List (Int×Int)):Prop:=
 ∀ i,i<qs.length→∃ b off,a=some ⟨b,off,none⟩∧b<w.heap.size∧w.cell? ⟨b,off+2*i,none⟩=some (.int .i64 (qs.getD i (0,0)).1)∧w.cell? ⟨b,off+2*i+1,none⟩=some (.int .u32 (qs.getD i (0,0)).2)
def QOk (qs:List (Int×Int)):Prop:=∀ p∈qs,-9223372036854775808≤p.1∧p.1<9223372036854775808∧0≤p.2∧p.2<4294967296
def mEl (qs:List (Int×Int)) (i:Nat):Rat:=qOf (qs.getD i (0,0)).1 (qs.getD i (0,0)).2
def mList (qs:List (Int×Int)) (k:Nat):List Rat:=(List.range k).map (mEl qs)
theorem mList_length (qs:List (Int×Int)) (k:Nat):(mList qs k).length=k:=by simp[mList]
section
variable {P:Program} {ops:Array Oper} {w0:World} {A:(Nat→Value)→Act} {T:Act→World→Prop} {i:Nat} {o:Oper} {os:List Oper} {V:Nat→(Nat→Value)→Value→World→Prop} {Φ:Nat→Bool}
def NewS (N:Nat) (T:TypeId) (zs:List Value) (n:Nat) (x:Value) (w:World):Prop:=∃ b,x=.slice (some ⟨b,0,none⟩) n n∧N≤b∧Bx w b T zs
theorem stable_newS (N:Nat) (T:TypeId) (zs:List Value) (n:Nat):Stable (NewS N T zs n):=fun _ _ _ ⟨b,h1,h2,h3⟩ hs=>⟨b,h1,h2,h3.call hs⟩
theorem placed_newS (φ:Bool) (N:Nat) (T:TypeId) (zs:List Value) (n:Nat):Placed φ (NewS N T zs n):=fun _ x w ⟨b,h1,h2,h3⟩ c hc=>by
 subst h1;cases hc;exact h3.lt
theorem flow_slice {t:TypeId} {zs:Array Value} {n:Nat} (hg:o.guard=none) (hf:fl o=false) (h:∀ u w,St w0 w→depH V u w o.after.toList→(execOp (A u).eval o).run P w=.ok (.value (.slice (some ⟨w.heap.size,0,none⟩) n n)) (w.alloc (.cells zs t)))
  (k:flow P ops w0 A T (i+1) os (ext V i (NewS w0.heap.size t zs.toList n)) (extB Φ i true)):flow P ops w0 A T i (o :: os) V Φ:=
 ⟨fun _=>_,true,fun _=>stable_newS _ _ _ _,fun _=>placed_newS _ _ _ _ _,local_const _ _,fun u w hw hd=>by
  unfold okOp
  rw[if_pos (by unfold Region.wanted;rw[hg]),h u w hw hd]
  exact⟨⟨⟨w.heap.size,rfl,hw.size,Bx.new _ _ _⟩,fun _ b hb=>by cases hb;exact Nat.le_refl _⟩,(Below.refl _ _).alloc (Nat.le_refl _) _⟩,fun h0=>absurd h0 (by rw[hf];exact Bool.false_ne_true),k⟩
end
end Gus
end
section
namespace Gus
open Go Go.RowKit Go.Proofs
def ecs (e:Nat×Rat):List Value:=.int .i64 (e.1:Nat) :: fcs e.2
theorem ecs_length (e:Nat×Rat):(ecs e).length=6:=rfl
def RowAt (w:World) (v:Value) (es:List (Nat×Rat)):Prop:=
 ∃ a cap,v=.slice a es.length cap∧∀ i,i<es.length→∃ b off,a=some ⟨b,off,none⟩∧b<w.heap.size∧∀ j,j<6→w.cell? ⟨b,off+6*i+j,none⟩=(ecs (es.getD i (0,0)))[j]?
theorem RowAt.below {N:Nat} {w w':World} {v:Value} {es:List (Nat×Rat)} (h:RowAt w v es) (hN:w.heap.size≤N) (hb:Below N w w'):RowAt w' v es:=by
 obtain⟨a,cap,h1,h2⟩:=h
 refine⟨a,cap,h1,fun i hi=>?_⟩
 obtain⟨b,off,h3,h4,h5⟩:=h2 i hi
 refine⟨b,off,h3,Nat.lt_of_lt_of_le h4 hb.size,fun j hj=>?_⟩
 rw[hb.cell (p:=⟨b,off+6*i+j,none⟩) (Nat.lt_of_lt_of_le h4 hN)]
 exact h5 j hj
theorem RowAt.call {w w':World} {v:Value} {es:List (Nat×Rat)} (h:RowAt w v es) (hb:Below w.heap.size w w'):RowAt w' v es:=h.below (Nat.le_refl _) hb
theorem RowAt.nil (w:World) (a:Option Addr) (cap:Nat):RowAt w (.slice a 0 cap) []:=⟨a,cap,rfl,fun _ hi=>absurd hi (Nat.not_lt_zero _)⟩
theorem flat_at:∀ (es:List (Nat×Rat)) (i j:Nat),i<es.length→j<6→(es.flatMap ecs)[6*i+j]?=(ecs (es.getD i (0,0)))[j]?
 | [],i,j,h,_=>absurd h (Nat.not_lt_zero _)
 | e :: es,0,j,_,hj=>by
  rw[List.flatMap_cons,Nat.mul_zero,Nat.zero_add,List.getElem?_append_left (by rw[ecs_length];exact hj)];rfl
 | e :: es,i+1,j,h,hj=>by
  rw[List.flatMap_cons,List.getElem?_append_right (by rw[ecs_length];omega),ecs_length,show 6*(i+1)+j - 6=6*i+j by omega,flat_at es i j (Nat.lt_of_succ_lt_succ h) hj];rfl
def SpAt (w:World) (v:Value) (r c:Nat) (rows:List (List (Nat×Rat))):Prop:=
 ∃ a cap,v=.agg #[.int .i64 r,.int .i64 c,.slice a rows.length cap]∧∀ i,i<rows.length→∃ b off x,a=some ⟨b,off,none⟩∧b<w.heap.size∧w.cell? ⟨b,off+i,none⟩=some x∧RowAt w x (rows.getD i [])
theorem SpAt.call {w w':World} {v:Value} {r c:Nat} {rows:List (List (Nat×Rat))} (h:SpAt w v r c rows) (hb:Below w.heap.size w w'):SpAt w' v r c rows:=by
 obtain⟨a,cap,h1,h2⟩:=h
 refine⟨a,cap,h1,fun i hi=>?_⟩
 obtain⟨b,off,x,h3,h4,h5,h6⟩:=h2 i hi
 refine⟨b,off,x,h3,Nat.lt_of_lt_of_le h4 hb.size, ?_,h6.call hb⟩
 rw[hb.cell (p:=⟨b,off+i,none⟩) h4]
 exact h5
theorem RowAt.own {w:World} {base:Nat} {e:TypeId} {v:Value} {es:List (Nat×Rat)} (h:w.ownsRow base e 6 v es.length (es.flatMap ecs)):RowAt w v es:=by
 rcases h.2 with ⟨rfl,hn⟩|⟨g,cap,cur,rfl,hb,hg,hrest⟩
 ·rw[List.length_eq_zero_iff] at hn
  subst hn
  exact RowAt.nil w none 0
 ·refine⟨some ⟨g,0,none⟩,cap,rfl,fun i hi=>⟨g,0,rfl,(Array.getElem?_eq_some_iff.1 hg).1,fun j hj=>?_⟩⟩
  have hk:=flat_at es i j hi hj
  have hj6:j<(ecs (es.getD i (0,0))).length:=by rw[ecs_length];exact hj
  rw[List.getElem?_eq_getElem hj6] at hk ⊢
  have:=h.cells (g:=g) rfl (6*i+j) _ hk
  rw[Nat.zero_add,←this]
  unfold Addr.add
  split <;> simp_all
end Gus
end
