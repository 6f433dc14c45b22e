/- Proved here: parts of the proof: KSame KSameB KCnt KOf KOne KCrdA KMtx KSml KOfd KMsm. Conditions: those that each theorem states. -/
import Derived.Test.YthblojaeoiemmaaGreatDoorKAppQ
import Derived.Test.YthblojaeoiemmaaGreatDoorRows
import Derived.Test.YthblojaeoiemmaaGreatDoorTie
import Derived.Test.YthblojaeoiemmaaGreatDoorCards
import Derived.WalkKit
import Derived.ProofKit
import Derived.OpenShut
import Derived.SevenTiedAt
import Derived.Below
import Derived.ChangeSame
import Derived.LaidLaws
import Derived.Lib.LaidTab
import Derived.Deep.DeepHandedRow
import Derived.Handy
section
namespace Gus
open Go Go.RowKit Go.Proofs
abbrev Itm:=Int×Int×Rat
def ics (x:Itm):List Value:=.int .i64 x.1 :: .int .i64 x.2.1 :: fcs x.2.2
def ItsAt (w:World) (a:Option Addr) (its:List Itm):Prop:=∀ i,i<its.length→∃ b off,a=some ⟨b,off,none⟩∧b<w.heap.size∧∀ j,j<7→w.cell? ⟨b,off+i*7+j,none⟩=(ics (its.getD i (0,0,0)))[j]?
theorem ItsAt.call {w w':World} {a:Option Addr} {its:List Itm} (h:ItsAt w a its) (hb:Below w.heap.size w w'):ItsAt w' a its:=fun i hi=>by
 obtain⟨b,off,h1,h2,h3⟩:=h i hi
 exact⟨b,off,h1,Nat.lt_of_lt_of_le h2 hb.size,fun j hj=>by rw[hb.cell (p:=⟨b,off+i*7+j,none⟩) h2];exact h3 j hj⟩
abbrev zeroSp:Value:=.agg #[.int .i64 0,.int .i64 0,.slice none 0 0]
theorem SpOwn.mono {w:World} {lo lo':Nat} {v:Value} {r c:Nat} {Ls:Nat→List Ent} (h:SpOwn w lo v r c Ls) (hl:lo'≤lo):SpOwn w lo' v r c Ls:=by
 obtain⟨R,vs,h1,h2,h3⟩:=h
 exact⟨R,vs,h1,by omega,h3⟩
theorem foldA_snoc (f:Nat→Nat→Rat) (L:List (Nat×Nat×Rat)) (x:Nat×Nat×Rat):foldA f (L ++ [x])=addF (foldA f L) x:=by
 unfold foldA;rw[List.foldl_append];rfl
end Gus
end
section
namespace Gus
open Go Go.RowKit Go.Proofs Go.ChangeShapes Go.WideShapes Go.ChangeAt
theorem ownK:ownKnob Tryz.prog.godebug=none:=by kernel_rfl
def tabP:Obj→Obj
 | .cells _ t frozen=>.cells #[.int .u64 1,.int .u64 10,.int .u64 100,.int .u64 1000,.int .u64 10000,.int .u64 100000,.int .u64 1000000,.int .u64 10000000,.int .u64 100000000,.int .u64 1000000000,.int .u64 10000000000,.int .u64 100000000000,.int .u64 1000000000000,.int .u64 10000000000000,.int .u64 100000000000000,.int .u64 1000000000000000,.int .u64 10000000000000000,.int .u64 100000000000000000,.int .u64 1000000000000000000,.int .u64 10000000000000000000] t frozen
 | o=>o
def tabA:Obj→Obj
 | .cells _ t frozen=>.cells #[.int .u8 0,.int .u8 1,.int .u8 28,.int .u8 2,.int .u8 29,.int .u8 14,.int .u8 24,.int .u8 3,.int .u8 30,.int .u8 22,.int .u8 20,.int .u8 15,.int .u8 25,.int .u8 17,.int .u8 4,.int .u8 8,.int .u8 31,.int .u8 27,.int .u8 13,.int .u8 23,.int .u8 21,.int .u8 19,.int .u8 16,.int .u8 7,.int .u8 26,.int .u8 12,.int .u8 18,.int .u8 6,.int .u8 11,.int .u8 5,.int .u8 10,.int .u8 9] t frozen
 | o=>o
def tabB:Obj→Obj
 | .cells _ t frozen=>.cells #[.int .u8 0,.int .u8 1,.int .u8 56,.int .u8 2,.int .u8 57,.int .u8 49,.int .u8 28,.int .u8 3,.int .u8 61,.int .u8 58,.int .u8 42,.int .u8 50,.int .u8 38,.int .u8 29,.int .u8 17,.int .u8 4,.int .u8 62,.int .u8 47,.int .u8 59,.int .u8 36,.int .u8 45,.int .u8 43,.int .u8 51,.int .u8 22,.int .u8 53,.int .u8 39,.int .u8 33,.int .u8 30,.int .u8 24,.int .u8 18,.int .u8 12,.int .u8 5,.int .u8 63,.int .u8 55,.int .u8 48,.int .u8 27,.int .u8 60,.int .u8 41,.int .u8 37,.int .u8 16,.int .u8 46,.int .u8 35,.int .u8 44,.int .u8 21,.int .u8 52,.int .u8 32,.int .u8 23,.int .u8 11,.int .u8 54,.int .u8 26,.int .u8 40,.int .u8 15,.int .u8 34,.int .u8 20,.int .u8 31,.int .u8 10,.int .u8 25,.int .u8 14,.int .u8 19,.int .u8 9,.int .u8 13,.int .u8 8,.int .u8 7,.int .u8 6] t frozen
 | o=>o
noncomputable def laidW (os:Os):World:=
 { World.holding Tryz.prog os ⟨#[],#[],[]⟩ with heap:=(((World.holding Tryz.prog os ⟨#[],#[],[]⟩).heap.modify 2 tabP).modify 3 tabA).modify 4 tabB }
section
variable {H:Type} {enc:TypeId×Value→H} {P:Program}
theorem row_end {f:Func} {s:ChangeSpec} {apart fresh handsOn again:Bool} {W W':World} {args:Array Value} {v:Value} {ds gs:List (DataW H)} {before pa pv:List MemPlace}
  (hb:Below W.heap.size W W') (hW:DataW.Whole enc P f.params.toList s.vars apart W args.toList ds gs before) (hps:before=pa ++ pv)
  (hargs:∀ sp:Nat→Bool,(∀ p∈before,sp p.block=true)→DataW.TrodAll enc P W' 0 sp true f.params.toList args.toList (s.fn H (ds ++ gs)).args pa)
  (hvars:∀ sp:Nat→Bool,(∀ p∈before,sp p.block=true)→DataW.TrodVars enc P W' sp s.vars (s.fn H (ds ++ gs)).vars pv)
  (hres:∀ (b:Nat) (sp:Nat→Bool) (hd:Bool),DataW.TrodAll enc P W' b sp hd f.resultTypes.toList (v.resultList f.resultTypes.size) (s.fn H (ds ++ gs)).results [])
  (hok:∀ (j:Nat) (t:TypeId) (r:Value),f.resultTypes[j]?=some t→(v.resultList f.resultTypes.size)[j]?=some r→Value.okWide P W' .any 0 t r) :
  s.post enc P f apart fresh handsOn again W args v W':=by
 have hin:∀ p∈before,decide (p.block<W.heap.size)=true:=fun p hp=>decide_eq_true (hW.lt p hp)
 have hkept:W.keptBut W' (fun p=>p∈before∧p∈pa ++ pv):=World.keptBut_mono (fun p hp=>⟨hp,hps ▸ hp⟩) (hb.frame (·∈before))
 refine⟨ds,gs,before,[],pa,pv,hW,hres _ _ _,hargs _ hin,hvars _ hin,World.keptBut_mono (fun p hp=>⟨hp.1, ?_⟩) hkept,fun _=>?_⟩
 ·exact .inr (List.mem_append.1 hp.2)
 ·have hlt:=hW.lt
  obtain⟨_,_,_,_,_,hz,hn⟩:=hW
  refine⟨hok,_,_,([] ++ pa) ++ pv,⟨[] ++ pa,pv,trodAll_append (hargs _ (fun _ _=>rfl)) (hres _ _ _),hvars _ (fun _ _=>rfl),rfl, ?_, ?_⟩, ?_⟩
  ·intro b off hp
   have hq:MemPlace.cell b off∈before:=by rw[hps];simpa using hp
   exact(hb.frozen (hlt _ hq)).trans (hz b off hq)
  ·intro ha
   have h2:=hn ha
   rw[hps] at h2
   simpa using h2
  ·intro p hp _
   rw[hps]
   simpa using hp
end
end Gus
end
section
namespace Gus
open Go Go.RowKit Go.Proofs
theorem VecAt.own {w:World} {base:Nat} {v:Value} {qs:List Rat} (h:w.ownsRow base 72 5 v qs.length (fcl qs)):VecAt w v qs:=by
 rcases h.2 with ⟨rfl,hn⟩|⟨g,cap,cur,rfl,hb,hg,hrest⟩
 ·rw[List.length_eq_zero_iff] at hn
  subst hn
  exact VecAt.nil w none 0
 ·refine⟨some ⟨g,0,none⟩,cap,rfl,fun i hi=>⟨g,0,rfl,(Array.getElem?_eq_some_iff.1 hg).1,fun j hj=>?_,_,_,hg⟩⟩
  have hk:=fcl_at qs i j hi hj
  have hj5:j<(fcs (qs.getD i 0)).length:=hj
  rw[List.getElem?_eq_getElem hj5] at hk ⊢
  have:=h.cells (g:=g) rfl (i*5+j) _ hk
  rw[Nat.zero_add,←this]
  unfold Addr.add
  split <;> simp_all
def MatAt (w:World) (v:Value) (r c:Nat) (qs:List Rat):Prop:=∃ x,v=.agg #[.int .i64 r,.int .i64 c,x]∧qs.length=r*c∧VecAt w x qs
theorem MatAt.call {w w':World} {v:Value} {r c:Nat} {qs:List Rat} (h:MatAt w v r c qs) (hb:Below w.heap.size w w'):MatAt w' v r c qs:=
 let ⟨x,h1,h2,h3⟩:=h;⟨x,h1,h2,h3.call hb⟩
theorem MatAt.shape {w:World} {v:Value} {r c:Nat} {qs:List Rat} (h:MatAt w v r c qs):∃ a cap,v=.agg #[.int .i64 r,.int .i64 c,.slice a qs.length cap]:=by
 obtain⟨x,rfl,_,h3⟩:=h
 obtain⟨a,cap,rfl⟩:=h3.shape
 exact⟨a,cap,rfl⟩
def CapOk (v:Value):Prop:=∃ p q a n k,v=.agg #[p,q,.slice a n k]∧n≤k
end Gus
end
section
namespace Gus
open Go Go.RowKit Go.Proofs
def dItm (c:Nat) (qs:List Rat) (p:Nat):List (Nat×Nat×Rat):=(List.range p).map fun t=>(t / c,t % c,qs.getD t 0)
theorem dItm_succ (c:Nat) (qs:List Rat) (p:Nat):dItm c qs (p+1)=dItm c qs p ++ [(p / c,p % c,qs.getD p 0)]:=by simp[dItm,List.range_succ]
set_option maxRecDepth 100000 in
set_option maxHeartbeats 4000000 in
theorem ofd_ok {j:Nat} (w:World) (r c:Nat) (a:Option Addr) (n cap:Nat) (qs:List Rat) (hv:VecAt w (.slice a n cap) qs) (hn:n=r*c) (hl:qs.length=n) (hr:r≤2048) (hc:c≤2048) (hz:∀ i,SzK j (qs.getD i 0)) (hcap:n*(j+1)+1<17592186044416) (hk:checkM r c n=0) :
  Calls Tryz.prog 61 #[.agg #[.int .i64 r,.int .i64 c,.slice a n cap]] w fun e w'=>(∃ s,e=.returned (.tuple #[s,.int .i64 0])∧SpN w' w.heap.size s r c (foldA (fun _ _=>0) (dItm c qs n)))∧Below w.heap.size w w':=by
 have h0:=fun W=>mcheck_any r c a n cap W
 rw[hk] at h0
 have h1:=begun_any r c
 obtain⟨X,hX⟩:∃ X,X=w.heap.size:=⟨_,rfl⟩
 have HX:=Lib.hid hX
 have HV:=Lib.hid hv
 have HL:=Lib.hid hl
 have HN:=Lib.hid hn
 have HZ:=Lib.hid hz
 have HC:=Lib.hid hcap
 clear hv hl hn hz hcap hk
 go_enter Tryz.func61,Tryz.ntmps61
 go_wp2_with fail
 obtain⟨Y,hY⟩:∃ Y,Y=(w.alloc (.cells #[.int .i64 r,.int .i64 c,.slice a n cap] 37)).heap.size:=⟨_,rfl⟩
 have hYX:Y=X+1:=by rw[hY,hX];simp
 have bm:=(Bx.new_at w #[.int .i64 r,.int .i64 c,.slice a n cap] 37 hX).alloc (.cells #[.int .i64 0,.int .i64 0,.slice none 0 0] 27)
 have br:=Bx.new_at (w.alloc (.cells #[.int .i64 r,.int .i64 c,.slice a n cap] 37)) #[.int .i64 0,.int .i64 0,.slice none 0 0] 27 hY
 have hin:In X w ((w.alloc (.cells #[.int .i64 r,.int .i64 c,.slice a n cap] 37)).alloc (.cells #[.int .i64 0,.int .i64 0,.slice none 0 0] 27)):=by rw[hX];exact((In.self w).alloc _).alloc _
 rw[←hX,←hYX]
 have HYX:=Lib.hid hYX
 clear hX hY hYX
 ((with_reducible refine(h0 _).mono ?_))
 rintro e w1 ⟨rfl,hbel⟩
 replace bm:=bm.call hbel
 replace br:=br.call hbel
 replace hin:=hin.call hbel
 clear hbel h0
 have m0:=bm.c0
 have m1:=bm.c1
 have m2:=bm.c2
 have hml:=bm.lt
 go_wp2_with fail
 ((with_reducible refine(h1 _).mono ?_))
 rintro e w2 ⟨rfl,hB,hbel⟩
 obtain⟨b,hb⟩:∃ b,b=w1.heap.size:=⟨_,rfl⟩
 have hYb:Y<b:=by have:=br.lt;omega
 rw[←hb] at hB ⊢
 replace bm:=bm.call hbel
 replace br:=br.call hbel
 have hXb:X≤b:=by have:=hin.siz;omega
 replace hin:=hin.call hbel
 clear hbel h1 hb m0 m1 m2 hml
 have m0:=bm.c0
 have m1:=bm.c1
 have m2:=bm.c2
 have hml:=bm.lt
 have hn4:n≤4194304:=by rw[HN.out];exact Nat.mul_le_mul hr hc
 have hn63:(n:Int)<9223372036854775807:=by omega
 go_wp2_with fail
 go_loopw [22] (fun v22 wr=>∃ p:Nat,p≤n∧v22=.int .i64 p∧In X w wr∧Bx wr X 37 [.int .i64 r,.int .i64 c,.slice a n cap]∧Bx wr Y 27 [.int .i64 0,.int .i64 0,.slice none 0 0]∧BB wr (b+1) b p r c (foldA (fun _ _=>0) (dItm c qs p))∧(∀ x y,SzK (1+p*(j+1)) (foldA (fun _ _=>0) (dItm c qs p) x y))) (fun v22 _=>n - (RowKit.intOf v22).toNat)
 case atStart=>exact⟨0,Nat.zero_le _,rfl,hin,bm,br,hB,fun _ _=>(show SzK _ 0 from SzK.zero.mono (by omega))⟩
 case round=>
  clear hin bm br hB m0 m1 m2 hml
  obtain⟨p,hp,rfl,hin,bm,br,hB,hsz⟩:=hrel
  by_cases hpn:p<n
  ·obtain⟨b2,off,cap2,A1,A2,A3,A4,A5,hva,hb2,hA,hA2,d0,d1,d2,d3,d4⟩:=HV.out.at (i:=p) (by rw[HL.out];exact hpn)
   obtain rfl:a=some ⟨b2,off,none⟩:=by injection hva
   rw[←HX.out] at hb2
   obtain⟨q,hq⟩:∃ q,q=qs.getD p 0:=⟨_,rfl⟩
   rw[←hq] at hA hA2
   replace d0:=(hin.cell b2 (off+p*5) hb2).trans d0
   replace d1:=(hin.cell b2 (off+p*5+1) hb2).trans d1
   replace d2:=(hin.cell b2 (off+p*5+2) hb2).trans d2
   replace d3:=(hin.cell b2 (off+p*5+3) hb2).trans d3
   replace d4:=(hin.cell b2 (off+p*5+4) hb2).trans d4
   have hbw:b2<wr.heap.size:=by have:=hin.siz;omega
   have hpI:(p:Int)<n:=by omega
   have hp0:(0:Int)≤p:=by omega
   have hpw:IntKind.i64.wrap ((p:Int)+1)=((p+1:Nat):Int):=IntWalk.i64_in _ (by omega)
   have m0:=bm.c0
   have m1:=bm.c1
   have m2:=bm.c2
   have hml:=bm.lt
   clear hva
   go_upto_region 8 with fail
   have hc0:0<c:=by
    rcases Nat.eq_zero_or_pos c with h | h
    ·have:=HN.out;rw[h,Nat.mul_zero] at this;omega
    ·exact h
   have hcn:¬ c=0:=by omega
   obtain⟨Z,hZ⟩:∃ Z,Z=wr.heap.size:=⟨_,rfl⟩
   have bz:=Bx.new_at wr #[.int .u64 A1,.string A2,.bool A3,.int .u64 A4,.string A5] 72 hZ
   have hin2:=hin.alloc (.cells #[.int .u64 A1,.string A2,.bool A3,.int .u64 A4,.string A5] 72)
   have bm2:=bm.alloc (.cells #[.int .u64 A1,.string A2,.bool A3,.int .u64 A4,.string A5] 72)
   have br2:=br.alloc (.cells #[.int .u64 A1,.string A2,.bool A3,.int .u64 A4,.string A5] 72)
   have hB2:=hB.alloc (.cells #[.int .u64 A1,.string A2,.bool A3,.int .u64 A4,.string A5] 72)
   rw[←hZ]
   clear hZ hin bm br hB d0 d1 d2 d3 d4 m0 m1 m2 hml hbw
   generalize wr.alloc (.cells #[.int .u64 A1,.string A2,.bool A3,.int .u64 A4,.string A5] 72)=W1 at *
   have m1:=bm2.c1
   have hml:=bm2.lt
   have x0:=bz.c0
   have x1:=bz.c1
   have x2:=bz.c2
   have x3:=bz.c3
   have x4:=bz.c4
   have hzl:=bz.lt
   have hcc:=hc
   refine tfw 10 ?_;refine tset ?_;(repeat (first | refine tfs ?_))
   (try clear hc hf h);intro u w' h ha hdi;replace h:=tsz h.ins;replace ha:=tah ha;have hc:=h.cell;have hf:=h.frozen
   obtain⟨y,hy⟩:∃ y,y=p / c:=⟨_,rfl⟩
   obtain⟨z,hzz⟩:∃ z,z=p % c:=⟨_,rfl⟩
   have hyp:y≤p:=by rw[hy];exact Nat.div_le_self p c
   have hpc:IntKind.i64.wrap ((p:Int) / c)=(y:Int):=by
    rw[show(p:Int) / c=((p / c:Nat):Int) from rfl,←hy]
    exact IntWalk.i64_in _ (by omega)
   have hpm:(p:Int).tmod c=(z:Int):=by rw[hzz];rfl
   (try obtain ha:=ha);(try dsimp only);simp only[ha,hpc,hpm];clear ha hdi hpc hpm
   have hi:y<r:=by
    rw[hy,Nat.div_lt_iff_lt_mul hc0,←HN.out];exact hpn
   have hk':z<c:=by rw[hzz];exact Nat.mod_lt _ hc0
   have hpj:(p+1)*(j+1)≤n*(j+1):=Nat.mul_le_mul_right _ (by omega)
   have hcl:=HC.out
   have hzx:=HZ.out p
   rw[←hq] at hzx
   have ha:=badd_in (s:=1+p*(j+1)) (j:=j) w' (b+1) b p r c _ y z q (hB2.call h.bel) hi hk' hr hcc (by simp only[maxLen];omega) (by omega) (hsz _ _) hzx (by rw[Nat.add_mul,Nat.one_mul] at hpj;omega)
   have e1:setF (foldA (fun _ _=>0) (dItm c qs p)) y z (foldA (fun _ _=>0) (dItm c qs p) y z+q)=foldA (fun _ _=>0) (dItm c qs (p+1)):=by
    rw[dItm_succ,foldA_snoc,←hq,←hy,←hzz];rfl
   have hsz2:=SzK_foldA (x:=(y,z,q)) hsz hzx
   rw[show addF (foldA (fun _ _=>0) (dItm c qs p)) (y,z,q)=foldA (fun _ _=>0) (dItm c qs (p+1)) from e1] at hsz2
   rw[e1,hA2] at ha
   have HZ2:=Lib.hid hsz2
   have hin3:=hin2.call h.bel
   have bm3:=bm2.call h.bel
   have br3:=br2.call h.bel
   clear hsz2 e1 hq hy hzz hyp hA hA2 hzx hsz hi hk' hpj hcl hB2 hin2 bm2 br2 bz m1 hml x0 x1 x2 x3 x4 hzl hc hf h
   go_wp2_with fail
   (with_reducible refine ha.mono ?_)
   rintro e w4 ⟨rfl,hB4,hg⟩
   have hin4:=hin3.grown hg (by omega)
   have br4:=br3.grown hg (by simp;omega)
   have bm4:=bm3.grown hg (by have:=HYX.out;simp;omega)
   clear ha hg hin3 br3 bm3
   go_wp2_with fail
   exact⟨⟨p+1,by omega,by go_num,hin4,bm4,br4,hB4,fun x y=>(HZ2.out x y).mono (by rw[Nat.add_mul];omega)⟩,by simp[RowKit.intOf];omega⟩
  ·have hpI:¬ (p:Int)<n:=by omega
   obtain rfl:p=n:=by omega
   have hsp:=bsparse_any wr (b+1) b p r c _ hB hr hc
   have hXw:=hin.siz
   obtain rfl:=HYX.out
   clear hB hsz bm
   go_wp2_with fail
   (with_reducible refine hsp.mono ?_)
   rintro e w5 ⟨v5,rfl,hv5,hb5⟩
   ((obtain⟨R,h5⟩:∃ R,v5=.agg #[(.int .i64 ((r:Nat):Int)),(.int .i64 ((c:Nat):Int)),(.slice (some ⟨R,0,none⟩) (r) (r))]:=by(obtain⟨R,_,h,_⟩:=hv5;exact⟨R,h⟩));(have br5:=br.call hb5);(have hin5:=hin.call hb5);have hXl:=br.lt;(have hv7:=((SpOwn.other (a:=⟨(X+1),0,none⟩) hv5 hXl (.int .i64 ((r:Nat):Int))).other (a:=⟨(X+1),1,none⟩) hXl (.int .i64 ((c:Nat):Int))).other (a:=⟨(X+1),2,none⟩) hXl (.slice (some ⟨R,0,none⟩) (r) (r)));(have br6:=((br5.set 0 (.int .i64 ((r:Nat):Int))).set 1 (.int .i64 ((c:Nat):Int))).set 2 (.slice (some ⟨R,0,none⟩) (r) (r)));(have hin6:=((hin5.setCell (p:=⟨(X+1),0,none⟩) (by first |(simp;done)|(simp;omega)) (.int .i64 ((r:Nat):Int))).setCell (p:=⟨(X+1),1,none⟩) (by first |(simp;done)|(simp;omega)) (.int .i64 ((c:Nat):Int))).setCell (p:=⟨(X+1),2,none⟩) (by first |(simp;done)|(simp;omega)) (.slice (some ⟨R,0,none⟩) (r) (r)));(have f0:=br5.frozen 0);(have f1:=br5.frozen 1);(have f2:=br5.frozen 2);have b0:=br5.c0;have b1:=br5.c1;have b2:=br5.c2;have hl5:=br5.lt;(subst h5);(have H1:=Lib.hid hv7);(have H2:=Lib.hid br6);(have H3:=Lib.hid hin6);clear hv7 br6 hin6 hv5 hb5 br br5 hin hin5;go_wp2_with fail;have h1:=H1.out;have h2:=H2.out;have h3:=H3.out;clear H1 H2 H3 f0 f1 f2 b0 b1 b2 hl5;(generalize ((w5.setCell ⟨(X+1),0,none⟩ (.int .i64 ((r:Nat):Int))).setCell ⟨(X+1),1,none⟩ (.int .i64 ((c:Nat):Int))).setCell ⟨(X+1),2,none⟩ (.slice (some ⟨R,0,none⟩) (r) (r))=W6 at *);(have e0:W6.cell? ⟨(X+1),0,none⟩=some (.int .i64 ((r:Nat):Int)):=h2.cell 0);(have e1:W6.cell? ⟨(X+1),1,none⟩=some (.int .i64 ((c:Nat):Int)):=h2.cell 1);(have e2:W6.cell? ⟨(X+1),2,none⟩=some (.slice (some ⟨R,0,none⟩) (r) (r)):=h2.cell 2);(have hfin:=SpOwn.mono h1 (show w.heap.size≤(World.heap wr).size by rw[←HX.out];omega));(have hbelow:Below w.heap.size w W6:=h3.bel.mono (by have:=HX.out;omega));(refine bodyPost_ret (v:=.tuple #[.agg #[(.int .i64 ((r:Nat):Int)),(.int .i64 ((c:Nat):Int)),(.slice (some ⟨R,0,none⟩) (r) (r))],.int .i64 0]) ?_ rfl ⟨⟨_,rfl,hfin⟩,hbelow⟩);(simp[results,Tryz.results61,go_sem,e0,e1,e2]))
theorem dItm_at {r c:Nat} (qs:List Rat) {i k:Nat} (hi:i<r) (hk:k<c):sumAt (dItm c qs (r*c)) i k=qs.getD (i*c+k) 0:=by
 have hc0:0<c:=by omega
 have h1:(i*c+k) / c=i:=by rw[Nat.mul_comm,Nat.mul_add_div hc0,Nat.div_eq_of_lt hk,Nat.add_zero]
 have h2:(i*c+k) % c=k:=by rw[Nat.mul_comm,Nat.mul_add_mod,Nat.mod_eq_of_lt hk]
 refine sumAt_once ?_ (List.mem_map.2 ⟨i*c+k,List.mem_range.2 ?_, ?_⟩)
 ·unfold dItm
  rw[List.pairwise_map]
  have hn:(List.range (r*c)).Pairwise (·≠·):=List.nodup_range
  refine hn.imp fun {a b} hab e=>hab ?_
  have e1:a / c=b / c:=e.1
  have e2:a % c=b % c:=e.2
  rw[←Nat.div_add_mod a c,←Nat.div_add_mod b c,e1,e2]
 ·have:=Nat.mul_le_mul_right c (show i+1≤r by omega)
  rw[Nat.add_mul,Nat.one_mul] at this
  omega
 ·rw[h1,h2]
theorem checkM_ok {r c:Nat} (hr:r≤2048) (hc:c≤2048):checkM r c (r*c:Nat)=0:=by
 have h:sidesE r c=0:=by unfold sidesE;rw[if_neg (by omega),if_neg (by omega)]
 unfold checkM
 rw[if_pos h,if_pos (by simp)]
def mvals (c:Nat) (qs:List Rat) (i k:Nat):Rat:=qs.getD (i*c+k) 0
theorem ofd_any {j:Nat} (w:World) (v:Value) (r c:Nat) (qs:List Rat) (hM:MatAt w v r c qs) (hr:r≤2048) (hc:c≤2048) (hz:∀ i,SzK j (qs.getD i 0)) (hcap:r*c*(j+1)+1<17592186044416) :
  Calls Tryz.prog 61 #[v] w fun e w'=>(∃ s,e=.returned (.tuple #[s,.int .i64 0])∧SpN w' w.heap.size s r c (mvals c qs))∧Below w.heap.size w w':=by
 obtain⟨x,rfl,hl,hv⟩:=hM
 obtain⟨a,cap,rfl⟩:=hv.shape
 refine(ofd_ok w r c a qs.length cap qs hv hl rfl hr hc hz (by rw[hl];exact hcap) ?_).mono ?_
 ·rw[hl];exact checkM_ok hr hc
 ·rintro e w' ⟨⟨s,rfl,hs⟩,hb⟩
  refine⟨⟨s,rfl,hs.congr fun i k hi hk=>?_⟩,hb⟩
  rw[foldA_at,hl,dItm_at qs hi hk,Rat.zero_add];rfl
end Gus
end
