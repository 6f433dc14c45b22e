/- Proved here: parts of the proof: KApp ShelfV KVTx KWrkA KWrk. Conditions: those that each theorem states. -/
import Derived.Test.YthblojaeoiemmaaGreatDoorShelfUQ
import Derived.Shelf.Strings.Builder1
import Derived.Shelf.Strings.Builder2
import Derived.Shelf.Strings.OnBuilder
import Derived.Shelf.Small.Bits
import Derived.Shelf.Small.Wraps
import Derived.Shelf.Strings.BuilderF
import Derived.Shelf.Strings.BuilderK
import Derived.Shelf.Strings.Builder2Cap
import Derived.Shelf.Strings.Prefix
import Derived.Shelf.Bits.Mul64
import Derived.Shelf.Strings.Repeat
import Derived.Shelf.Strings.BuilderCap
import Derived.Shelf.Slices.ReverseS
import Derived.Shelf.Slices.SearchI
import Derived.Shelf.Slices.Cells
import Derived.Ground.Names2Prog
import Derived.Test.YthblojaeoiemmaaGreatDoorProg
section
namespace Gus
open Go Go.RowKit Go.Proofs
def LensAt (w:World) (a:Option Addr) (ns:List Nat):Prop:=∀ i,i<ns.length→∃ b off x c,a=some ⟨b,off,none⟩∧b<w.heap.size∧w.cell? ⟨b,off+i,none⟩=some (.slice x (ns.getD i 0) c)
def goesS (n m:Int) (rows:List (List EntI)) (ns:List Nat):Int:=if checkS n m rows≠0 then checkS n m rows else if ns.all (fun k=>decide (k≤2048))=true then 0 else 3
set_option maxRecDepth 100000 in
set_option maxHeartbeats 2000000 in
theorem goes_any (w:World) (v:Value) (n m:Int) (rows:List (List EntI)) (h:SpG w v n m rows) (hr:rows.length≤4096) (hl:∀ i,(rows.getD i []).length≤4096) (a:Option Addr) (cap:Nat) (ns:List Nat) (hv:LensAt w a ns) (hn:ns.length≤4096) :
  Calls Tryz.prog 71 #[v,.slice a ns.length cap] w fun e w'=>e=.returned (.int .i64 (goesS n m rows ns))∧Below w.heap.size w w':=by
 have hck:=fun W (hb:Below w.heap.size w W)=>scheck_any W v n m rows (h.call hb) hr hl
 obtain⟨sa,sc,rfl,_⟩:=h
 obtain⟨L,hL⟩:∃ L,L=ns.length:=⟨_,rfl⟩
 unfold LensAt at hv
 unfold goesS
 rw[←hL] at hv hn ⊢
 obtain⟨s,hs⟩:∃ s,s=checkS n m rows:=⟨_,rfl⟩
 rw[←hs] at hck ⊢
 obtain⟨K,hK⟩:∃ K,K=rows.length:=⟨_,rfl⟩
 rw[←hK] at hck ⊢
 obtain⟨ok,hok⟩:∃ ok,ok=ns.all fun k=>decide (k≤2048):=⟨_,rfl⟩
 rw[←hok]
 have HV:=Lib.hid hv
 have HL:=Lib.hid hL
 have HOK:Hid (ok=(ns.drop 0).all fun k=>decide (k≤2048)):=Lib.hid hok
 obtain⟨X,hX⟩:∃ X,X=w.heap.size:=⟨_,rfl⟩
 have HX:=Lib.hid hX
 clear hv hL hs hK hr hl hok
 by_cases h0:s=0
 ·subst h0
  rw[if_neg (by decide)]
  go_enter Tryz.func71,Tryz.ntmps71
  go_wp2_with fail
  ((with_reducible refine(hck _ ?_).mono ?_))
  ·exact((In.self w).alloc _).bel
  rintro e w1 ⟨rfl,hb1⟩
  have hin:In X w w1:=by rw[hX];exact((In.self w).alloc _).call hb1
  clear hb1 hX hck
  go_wp2_with fail
  go_loopw [15] (fun v15 wr=>∃ i:Nat,i≤L∧v15=.int .i64 i∧In X w wr∧Hid (ok=(ns.drop i).all fun k=>decide (k≤2048))) (fun v15 _=>L - (RowKit.intOf v15).toNat)
  case atStart=>exact⟨0,Nat.zero_le _,rfl,hin,HOK⟩
  case round=>
   clear hin HOK
   obtain⟨i,hi,rfl,hin,HOK⟩:=hrel
   by_cases hiL:i<L
   ·obtain⟨b,off,x,c,rfl,hb,hc⟩:=HV.out i hiL
    have hok:=HOK.out
    rw[drop_getD ns 0 (by rw[←HL.out];exact hiL),List.all_cons] at hok
    obtain⟨k,hk⟩:∃ k,k=ns.getD i 0:=⟨_,rfl⟩
    rw[←hk] at hc hok
    rw[←HX.out] at hb
    rw[←hin.cell b _ hb] at hc
    have hbw:b<wr.heap.size:=by have:=hin.siz;omega
    have hiI:(i:Int)<L:=by omega
    have hi0:(0:Int)≤i:=by omega
    have hiw:IntKind.i64.wrap ((i:Int)+1)=((i+1:Nat):Int):=IntWalk.i64_in _ (by omega)
    by_cases hk2:k≤2048
    ·rw[decide_eq_true hk2,Bool.true_and] at hok
     have HOK2:=Lib.hid hok
     have hkI:¬ (2048:Int)<k:=by omega
     clear hok hk HOK hk2
     go_wp2_with fail
     exact⟨⟨i+1,by omega,by go_num,hin,HOK2⟩,by simp[RowKit.intOf];omega⟩
    ·rw[decide_eq_false hk2,Bool.false_and] at hok
     subst hok
     have hkI:(2048:Int)<k:=by omega
     clear hk HOK hk2
     go_wp2_with fail
     go_ret
     exact⟨rfl,by rw[←HX.out];exact hin.bel⟩
   ·have hok:=HOK.out
    rw[List.drop_eq_nil_of_le (by rw[←HL.out];omega),List.all_nil] at hok
    subst hok
    have hiI:¬ (i:Int)<L:=by omega
    clear HOK
    go_wp2_with fail
    go_ret
    exact⟨rfl,by rw[←HX.out];exact hin.bel⟩
 ·rw[if_pos h0]
  have hb:(s != 0)=true:=by simpa using h0
  clear h0
  go_enter Tryz.func71,Tryz.ntmps71
  go_wp2_with fail
  ((with_reducible refine(hck _ ?_).mono ?_))
  ·exact((In.self w).alloc _).bel
  rintro e w1 ⟨rfl,hb1⟩
  have hin:In X w w1:=by rw[hX];exact((In.self w).alloc _).call hb1
  clear hb1 hX hck
  go_wp2_with fail
  go_ret
  exact⟨rfl,by rw[←HX.out];exact hin.bel⟩
set_option maxRecDepth 100000 in
set_option maxHeartbeats 2000000 in
theorem app1_any {s j l:Nat} (W:World) (o p g:Nat) (vv:Value) (ys qs:List Rat) (i k:Nat) (x:Rat) (ho:Bx W o 32 [.slice (some ⟨g,0,none⟩) ys.length ys.length]) (hp:Bx W p 32 [vv]) (hv:VecAt W vv qs) (hy:VBx W g ys) (hi:i<ys.length) (hk:k<qs.length)
  (h1:SzK s (ys.getD i 0)) (h2:SzK j x) (h3:SzK l (qs.getD k 0)) (h4:s+(j+l)+1<17592186044416) :
  Calls Tryz.prog 73 #[.int .i64 i,.int .i64 k,fracV x,.pointer (some ⟨o,0,none⟩),.pointer (some ⟨p,0,none⟩)] W fun e w'=>e=.returned (.tuple #[])∧VBx w' g (ys.set i (ys.getD i 0+x*qs.getD k 0))∧W.grownBy w' (some g):=by
 have c1:=fmul_any x (qs.getD k 0) h2 h3 (by omega)
 have c2:=fadd_any (ys.getD i 0) (x*qs.getD k 0) h1 (h2.mul h3) h4
 obtain⟨b,off,cap,C1,C2,C3,C4,C5,rfl,hb,_,hf,d0,d1,d2,d3,d4⟩:=hv.at hk
 obtain⟨E1,E2,E3,E4,E5,hE,e0,e1,e2,e3,e4,g0,g1,g2,g3,g4⟩:=VBx.cells hy hi
 have o0:=ho.c0
 have p0:=hp.c0
 have hol:=ho.lt
 have hpl:=hp.lt
 have hgl:=hy.lt
 obtain⟨z,hz⟩:∃ z,z=ys.getD i 0+x*qs.getD k 0:=⟨_,rfl⟩
 have hset:=fun w1 (h:VBx w1 g ys)=>VBx.set h i z hi
 rw[hf] at c1
 rw[hE,←hz] at c2
 rw[←hz]
 have HI:=Lib.hid hi
 obtain⟨K,hK⟩:∃ K,K=ys.length:=⟨_,rfl⟩
 rw[←hK] at o0 hi
 obtain⟨M,hM⟩:∃ M,M=qs.length:=⟨_,rfl⟩
 rw[←hM] at p0 hk
 obtain⟨y,hyy⟩:∃ y,y=x*qs.getD k 0:=⟨_,rfl⟩
 rw[←hyy] at c1 c2
 obtain⟨A1,A2,A3,A4,A5,hA⟩:∃ A1 A2 A3 A4 A5,fracV x=.agg #[.int .u64 A1,.string A2,.bool A3,.int .u64 A4,.string A5]:=⟨_,_,_,_,_,rfl⟩
 rw[hA] at c1 ⊢
 have hiI:(i:Int)<K:=by omega
 have hi0:(0:Int)≤i:=by omega
 have hkI:(k:Int)<M:=by omega
 have hk0:(0:Int)≤k:=by omega
 have HY:=Lib.hid hy
 have HS:=Lib.hid hset
 clear hyy hz hf hE h1 h2 h3 h4 hK hM hA hset hy hv ho hp
 go_enter Tryz.func73,Tryz.ntmps73
 go_upto_region 1 with fail
 obtain⟨X,hX⟩:∃ X,X=W.heap.size:=⟨_,rfl⟩
 have bx:=Bx.new_at W #[.int .u64 A1,.string A2,.bool A3,.int .u64 A4,.string A5] 72 hX
 have hin:In X W (W.alloc (.cells #[.int .u64 A1,.string A2,.bool A3,.int .u64 A4,.string A5] 72)):=by rw[hX];exact(In.self W).alloc _
 have hg:=World.grownBy_alloc W (.cells #[.int .u64 A1,.string A2,.bool A3,.int .u64 A4,.string A5] 72) (some g)
 have hy1:VBx _ g ys:=HY.out.alloc (.cells #[.int .u64 A1,.string A2,.bool A3,.int .u64 A4,.string A5] 72)
 rw[←hX] at hb hol hpl hgl ⊢
 rw[←hin.cell b _ hb] at d0 d1 d2 d3 d4
 rw[←hin.cell g _ hgl] at e0 e1 e2 e3 e4
 rw[←hin.cell o _ hol] at o0
 rw[←hin.cell p _ hpl] at p0
 have hXl:=bx.lt
 have HG:=Lib.hid hg
 have HY2:=Lib.hid hy1
 clear g0 g1 g2 g3 g4 hX hin HY hg hy1
 generalize W.alloc (.cells #[.int .u64 A1,.string A2,.bool A3,.int .u64 A4,.string A5] 72)=W1 at *
 have x0:=bx.c0
 have x1:=bx.c1
 have x2:=bx.c2
 have x3:=bx.c3
 have x4:=bx.c4
 have hb':b<W1.heap.size:=by omega
 have ho':o<W1.heap.size:=by omega
 have hp':p<W1.heap.size:=by omega
 have hg':g<W1.heap.size:=by omega
 refine tfw 14 ?_;refine tset ?_;(repeat (first | refine tfs ?_ |((first |((with_reducible refine flow_pure0 (v:=?_) ?_ ?_ ?_ ?_);rotate_left 1;exact trr;exact trf)|((with_reducible refine flow_pureg (v:=?_) (j:=?_) (b:=?_) ?_ ?_ ?_ ?_);rotate_left 3;exact trr;exact thg));(focus (intro u w1 hw hd;replace hd:=thn hd;have hc':=hw.cell;go_simp;first |(go_at_call 39;((with_reducible refine(c1 _).mono ?_));rintro e w'' ⟨rfl,hb⟩;refine⟨?_,hb⟩;exact rfl)|(go_at_call 74;((with_reducible refine(c2 _).mono ?_));rintro e w'' ⟨rfl,hb⟩;refine⟨?_,hb⟩;exact rfl))))))
 (try clear hc hf h);intro u w' h ha hdi;replace h:=tsz h.ins;replace ha:=tah ha;have hc:=h.cell;have hf:=h.frozen
 (try obtain ha:=ha);(try dsimp only);simp only[ha];clear ha hdi
 have hy3:=HY2.out.below h.bel hg'
 obtain⟨F1,F2,F3,F4,F5,_,e0,e1,e2,e3,e4,g0,g1,g2,g3,g4⟩:=VBx.cells hy3 (i:=i) HI.out
 have H1:=Lib.hid (HS.out _ hy3)
 have H2:=Lib.hid ((gr_bel HG.out h.bel).trans (gr_put5 w' g i z))
 have hgl2:=hy3.lt
 clear hy3 hc hf h HY2 HG HS d0 d1 d2 d3 d4 o0 p0 x0 x1 x2 x3 x4
 go_wp2_with fail
 go_end0
 exact⟨rfl,H1.out,H2.out⟩
def sumRow (qs:List Rat):List (Nat×Nat×Rat)→Nat→Rat
 | [],_=>0
 | x :: L,i=>(if x.1=i then x.2.2*qs.getD x.2.1 0 else 0)+sumRow qs L i
def stepV (qs:List Rat) (ys:List Rat) (x:Nat×Nat×Rat):List Rat:=ys.set x.1 (ys.getD x.1 0+x.2.2*qs.getD x.2.1 0)
def foldV (qs:List Rat) (ys:List Rat) (L:List (Nat×Nat×Rat)):List Rat:=L.foldl (stepV qs) ys
theorem stepV_length (qs ys:List Rat) (x:Nat×Nat×Rat):(stepV qs ys x).length=ys.length:=by simp[stepV]
theorem foldV_length (qs:List Rat):∀ (L:List (Nat×Nat×Rat)) (ys:List Rat),(foldV qs ys L).length=ys.length
 | [],_=>rfl
 | x :: L,ys=>by
  show(foldV qs (stepV qs ys x) L).length=_
  rw[foldV_length qs L,stepV_length]
theorem stepV_at (qs ys:List Rat) (x:Nat×Nat×Rat) (i:Nat) (hi:i<ys.length):(stepV qs ys x).getD i 0=ys.getD i 0+if x.1=i then x.2.2*qs.getD x.2.1 0 else 0:=by
 unfold stepV
 simp only[List.getD_eq_getElem?_getD,List.getElem?_set]
 by_cases h:x.1=i
 ·subst h;rw[if_pos rfl,if_pos hi,if_pos rfl];rfl
 ·rw[if_neg h,if_neg h,Rat.add_zero]
theorem foldV_at (qs:List Rat):∀ (L:List (Nat×Nat×Rat)) (ys:List Rat) (i:Nat),i<ys.length→(foldV qs ys L).getD i 0=ys.getD i 0+sumRow qs L i
 | [],ys,i,_=>by simp[foldV,sumRow,Rat.add_zero]
 | x :: L,ys,i,hi=>by
  show(foldV qs (stepV qs ys x) L).getD i 0=_
  rw[foldV_at qs L _ i (by rw[stepV_length];exact hi),stepV_at qs ys x i hi,sumRow,Rat.add_assoc]
def appL (r c:Nat) (f:Nat→Nat→Rat) (qs:List Rat):List Rat:=(List.range r).map fun i=>sumRow qs (items r c f) i
theorem foldV_all (r c:Nat) (f:Nat→Nat→Rat) (qs:List Rat):foldV qs (List.replicate r 0) (items r c f)=appL r c f qs:=by
 apply List.ext_getElem
 ·rw[foldV_length];simp[appL]
 ·intro i h1 h2
  have hi:i<r:=by rw[foldV_length] at h1;simpa using h1
  have:=foldV_at qs (items r c f) (List.replicate r 0) i (by simpa using hi)
  rw[List.getD_eq_getElem?_getD,List.getElem?_eq_getElem h1] at this
  rw[show(foldV qs (List.replicate r 0) (items r c f))[i]=(some (foldV qs (List.replicate r 0) (items r c f))[i]).getD 0 from rfl,this]
  rw[List.getD_eq_getElem?_getD,List.getElem?_replicate,if_pos hi]
  simp[appL,Rat.zero_add]
theorem SzK_stepV {s j l:Nat} {qs ys:List Rat} {x:Nat×Nat×Rat} (hy:∀ i,SzK s (ys.getD i 0)) (hx:SzK j x.2.2) (hq:∀ k,SzK l (qs.getD k 0)):∀ i,SzK (s+(j+l)+1) ((stepV qs ys x).getD i 0):=by
 intro i
 by_cases h:i<ys.length
 ·rw[stepV_at qs ys x i h]
  split
  ·exact(hy i).add (hx.mul (hq _))
  ·rw[Rat.add_zero];exact(hy i).mono (by omega)
 ·rw[List.getD_eq_getElem?_getD,List.getElem?_eq_none (by rw[stepV_length];omega)]
  exact SzK.zero.mono (by omega)
set_option maxRecDepth 100000 in
set_option maxHeartbeats 4000000 in
theorem apply_ok {j l:Nat} (w:World) (v vv:Value) (r c:Nat) (f:Nat→Nat→Rat) (qs:List Rat) (hS:SpM w v r c f) (hV:VecAt w vv qs) (hr:r≤2048) (hc:c≤2048) (hq:qs.length=c) (hz:∀ i k,SzK j (f i k)) (hzq:∀ k,SzK l (qs.getD k 0)) (hcap:r*c*(j+l+1)+1<17592186044416) :
  Calls Tryz.prog 28 #[v,vv] w fun e w'=>∃ g,e=.returned (.tuple #[.slice (some ⟨g,0,none⟩) r r,.int .i64 0])∧w.heap.size≤g∧VBx w' g (appL r c f qs)∧Below w.heap.size w w':=by
 have hgo:=fun W (hb:Below w.heap.size w W) a cap (hl:LensAt W a [c])=>goes_any W v r c _ (hS.call hb).g (by rw[List.length_map,mrows_length];omega) (fun i=>by
  by_cases hi:i<r
  ·have e:((mrows r c f).map fun es=>es.map cI).getD i []=((mrows r c f).getD i []).map cI:=by
    simp only[List.getD_eq_getElem?_getD,List.getElem?_map,List.getElem?_eq_getElem (show i<(mrows r c f).length by rw[mrows_length];exact hi)];rfl
   rw[e,List.length_map]
   exact Nat.le_trans (mrows_row r c f i) (by omega)
  ·rw[List.getD_eq_getElem?_getD,List.getElem?_eq_none (by rw[List.length_map,mrows_length];omega)];exact Nat.zero_le _) a cap [c] hl (by simp)
 have hg0:goesS r c ((mrows r c f).map fun es=>es.map cI) [c]=0:=by
  unfold goesS
  rw[checkS_valid hr hc,if_neg (by decide),if_pos (by simp[hc])]
 rw[hg0] at hgo
 simp only[List.length_singleton] at hgo
 obtain⟨a,cap,rfl⟩:=hS.shape
 obtain⟨va,vc,rfl⟩:=hV.shape
 rw[hq] at hV ⊢
 have HS:=Lib.hid hS
 have HV:=Lib.hid hV
 have HQ:=Lib.hid hq
 have HMK:=Lib.hid (mk_vec r (by omega))
 obtain⟨X,hX⟩:∃ X,X=w.heap.size:=⟨_,rfl⟩
 have HX:=Lib.hid hX
 clear hS hV hq hg0
 go_enter Tryz.func28,Tryz.ntmps28
 go_wp2_with fail
 have bx:=((Bx.new_at w #[.int .i64 r,.int .i64 c,.slice a r cap] 27 hX).alloc (.cells #[.slice va c vc] 32)).alloc (.cells #[.slice va c vc] 32)
 have bp:=(Bx.new_at (w.alloc (.cells #[.int .i64 r,.int .i64 c,.slice a r cap] 27)) #[.slice va c vc] 32 (n:=X+1) (by rw[World.size_alloc,hX])).alloc (.cells #[.slice va c vc] 32)
 have bl:=Bx.new_at ((w.alloc (.cells #[.int .i64 r,.int .i64 c,.slice a r cap] 27)).alloc (.cells #[.slice va c vc] 32)) #[.slice va c vc] 32 (n:=X+1+1) (by rw[World.size_alloc,World.size_alloc,hX])
 have hin:In X w (((w.alloc (.cells #[.int .i64 r,.int .i64 c,.slice a r cap] 27)).alloc (.cells #[.slice va c vc] 32)).alloc (.cells #[.slice va c vc] 32)):=by rw[hX];exact(((In.self w).alloc _).alloc _).alloc _
 rw[←hX]
 generalize ((w.alloc (.cells #[.int .i64 r,.int .i64 c,.slice a r cap] 27)).alloc (.cells #[.slice va c vc] 32)).alloc (.cells #[.slice va c vc] 32)=W1 at *
 ((with_reducible refine(hgo _ ?_ _ _ ?_).mono ?_))
 ·rw[←hX];exact hin.bel
 ·intro i hi
  have h0:i=0:=by simpa using hi
  subst h0
  exact⟨X+1+1,0,_,_,rfl,bl.lt,bl.c0⟩
 rintro e w2 ⟨rfl,hb2⟩
 have bx2:=bx.call hb2
 have bp2:=bp.call hb2
 have hin2:=hin.call hb2
 have hbp:=bp2.lt
 have x0:=bx2.c0
 have x1:=bx2.c1
 have x2:=bx2.c2
 have p0:=bp2.c0
 have hbx:=bx2.lt
 have hmk:=HMK.out w2
 clear hb2 bx bp bl hin hgo hX
 go_wp2_with fail
 obtain⟨g,hg⟩:∃ g,g=w2.heap.size:=⟨_,rfl⟩
 have bg:=(Bx.new_at w2 (fcl (List.replicate r 0)).toArray 72 hg).alloc (.cells #[.slice (some ⟨w2.heap.size,0,none⟩) r r] 32)
 have bo:=Bx.new_at (w2.alloc (.cells (fcl (List.replicate r 0)).toArray 72)) #[.slice (some ⟨w2.heap.size,0,none⟩) r r] 32 (n:=g+1) (by rw[World.size_alloc,hg])
 have bp3:=(bp2.alloc (.cells (fcl (List.replicate r 0)).toArray 72)).alloc (.cells #[.slice (some ⟨w2.heap.size,0,none⟩) r r] 32)
 have hin3:=(hin2.alloc (.cells (fcl (List.replicate r 0)).toArray 72)).alloc (.cells #[.slice (some ⟨w2.heap.size,0,none⟩) r r] 32)
 have hpg:X+1<g:=by rw[hg];exact hbp
 rw[←hg] at bg bo bp3 hin3 ⊢
 clear hmk hg x0 x1 x2 p0 hbx hbp bx2 bp2 hin2
 generalize (w2.alloc (.cells (fcl (List.replicate r 0)).toArray 72)).alloc (.cells #[.slice (some ⟨g,0,none⟩) r r] 32)=W3 at *
 have hin4:In w.heap.size w W3:=by rw[←HX.out];exact hin3
 obtain⟨T,hT⟩:∃ T,T=(items r c f).length:=⟨_,rfl⟩
 have hTr:T≤r*c:=by rw[hT];exact items_length r c f
 have hTb:T*(j+l+1)≤r*c*(j+l+1):=Nat.mul_le_mul_right _ hTr
 have he:=each_any (fun t W=>∃ ys,VBx W g ys∧ys.length=r∧In w.heap.size w W∧Bx W (g+1) 32 [.slice (some ⟨g,0,none⟩) r r]∧Bx W (X+1) 32 [.slice va c vc]∧(∀ x∈t,x∈items r c f)∧t.length≤T∧(∀ i,SzK (1+(T - t.length)*(j+l+1)) (ys.getD i 0))∧foldV qs ys t=appL r c f qs)
  w W3 (.agg #[.int .i64 r,.int .i64 c,.slice a r cap]) r c (mrows r c f) 73 #[.pointer (some ⟨g+1,0,none⟩),.pointer (some ⟨X+1,0,none⟩)] (enters_of Tryz.func73 (by kernel_rfl) rfl) HS.out (fun t W h=>by obtain⟨_,_,_,h,_⟩:=h;exact h)
  (fun t W W' h hb=>by obtain⟨ys,h1,h2,h3,h4,h5,h6⟩:=h;exact⟨ys,h1.call hb,h2,h3.call hb,h4.call hb,h5.call hb,h6⟩)
  (fun i k x t W h=>by
   obtain⟨ys,h1,h2,h3,h4,h5,h6,h7,h8,h9⟩:=h
   have hx:=mem_items.1 (h6 _ (.head _))
   rw[List.length_cons] at h7 h8
   have hmul:(T - (t.length+1))*(j+l+1)+(j+l+1)≤T*(j+l+1):=by
    rw[←Nat.succ_mul];exact Nat.mul_le_mul_right _ (by omega)
   have hvW:=HV.out.below (Nat.le_refl _) h3.bel
   refine(app1_any (s:=1+(T - (t.length+1))*(j+l+1)) (j:=j) (l:=l) W (g+1) (X+1) g (.slice va c vc) ys qs i k x (by rw[h2];exact h4) h5 hvW h1 (by rw[h2];exact hx.1) (by rw[HQ.out];exact hx.2.1) (h8 i) (by rw[hx.2.2.2];exact hz i k) (hzq k) (by omega)).mono ?_
   rintro e w' ⟨rfl,h10,h11⟩
   refine⟨rfl,_,h10,by rw[List.length_set];exact h2,⟨h3.bel.grown h11 h3.siz (fun k h=>by cases h;rw[←HX.out];omega),Nat.le_trans h3.siz h11.size⟩,h4.grown h11 (by simp),h5.grown h11 (by simp;omega),fun y hy=>h6 y (List.mem_cons_of_mem _ hy),by omega, ?_,h9⟩
   intro i'
   refine(SzK_stepV (x:=(i,k,x)) h8 (by rw[hx.2.2.2];exact hz i k) hzq i').mono ?_
   rw[show T - t.length=(T - (t.length+1))+1 by omega,Nat.succ_mul];omega)
  (by rw[mrows_length];omega) (fun i=>Nat.le_trans (mrows_row r c f i) (by omega))
  ⟨_,bg,by simp,hin4,bo,bp3,fun x hx=>hx,by rw[hT];exact Nat.le_refl _,fun i=>by
   have e:(List.replicate r (0:Rat)).getD i 0=0:=by
    rw[List.getD_eq_getElem?_getD,List.getElem?_replicate];split <;> rfl
   rw[e];exact SzK.zero.mono (by omega),foldV_all r c f qs⟩
 (with_reducible refine he.mono ?_)
 rintro e w4 ⟨rfl,ys,h1,h2,h3,h4,h5,_,_,_,h9⟩
 have h9':ys=appL r c f qs:=h9
 subst h9'
 have o0:=h4.c0
 have hol:=h4.lt
 clear he bg bo bp3 hin3 hin4 h5
 go_wp2_with fail
 go_ret2
 exact⟨g,rfl,by rw[←HX.out];omega,h1,h3.bel⟩
end Gus
end
section
namespace Go.Proofs
open Go.Shelf
def Tryz.lays156_ren:Go.Shelf.Ren:=⟨fun | 156=>97 | 165=>145 | 166=>146 | 169=>147 | 240=>173 | 241=>174 | 276=>196 | 277=>197 | n=>n,fun | 31=>160 | 9=>9 | 3=>3 | 4=>4 | 0=>0 | 20=>20 | 72=>211 | 76=>215 | 70=>209 | 37=>52 | 75=>214 | 127=>241 | 164=>262 | 5=>5 | 80=>217 | n=>n,fun | n=>n⟩
theorem Tryz.lays156:Go.Proofs.Lays.n156 Tryz.prog Tryz.lays156_ren:={
 mixed:=by kernel_rfl
 f156:=Tryz.func97.trans (congrArg some (by kernel_rfl))
 f165:=Tryz.func145.trans (congrArg some (by kernel_rfl))
 f166:=Tryz.func146.trans (congrArg some (by kernel_rfl))
 f169:=Tryz.func147.trans (congrArg some (by kernel_rfl))
 f240:=Tryz.func173.trans (congrArg some (by kernel_rfl))
 f241:=Tryz.func174.trans (congrArg some (by kernel_rfl))
 f276:=Tryz.func196.trans (congrArg some (by kernel_rfl))
 f277:=Tryz.func197.trans (congrArg some (by kernel_rfl))
 t0:=Tryz.underlying0
 a0:=Tryz.isAgg0
 z0:=Tryz.sizeOf0
 v0:=Tryz.zeroValue0
 t3:=Tryz.underlying3
 a3:=Tryz.isAgg3
 z3:=Tryz.sizeOf3
 v3:=Tryz.zeroValue3
 t4:=Tryz.underlying4
 a4:=Tryz.isAgg4
 z4:=Tryz.sizeOf4
 v4:=Tryz.zeroValue4
 t9:=Tryz.underlying9
 a9:=Tryz.isAgg9
 z9:=Tryz.sizeOf9
 v9:=Tryz.zeroValue9
 t20:=Tryz.underlying20
 a20:=Tryz.isAgg20
 z20:=Tryz.sizeOf20
 v20:=Tryz.zeroValue20
 t31:=Tryz.underlying160
 a31:=Tryz.isAgg160
 z31:=Tryz.sizeOf160
 v31:=Tryz.zeroValue160
 t37:=Tryz.underlying52
 a37:=Tryz.isAgg52
 z37:=Tryz.sizeOf52
 v37:=Tryz.zeroValue52
 t70:=Tryz.underlying209
 a70:=Tryz.isAgg209
 z70:=Tryz.sizeOf209
 v70:=Tryz.zeroValue209
 t72:=Tryz.underlying211
 a72:=Tryz.isAgg211
 z72:=Tryz.sizeOf211
 v72:=Tryz.zeroValue211
 t75:=Tryz.underlying214
 a75:=Tryz.isAgg214
 z75:=Tryz.sizeOf214
 v75:=Tryz.zeroValue214
 t76:=Tryz.underlying215
 a76:=Tryz.isAgg215
 z76:=Tryz.sizeOf215
 v76:=Tryz.zeroValue215
 t127:=Tryz.underlying241
 a127:=Tryz.isAgg241
 z127:=Tryz.sizeOf241
 v127:=Tryz.zeroValue241
 t164:=Tryz.underlying262
 a164:=Tryz.isAgg262
 z164:=Tryz.sizeOf262
 v164:=Tryz.zeroValue262 }
theorem Tryz.Builder_Extra_156:Builder.Extra Tryz.prog Tryz.lays156_ren:={
 sizeBuilder:=by kernel_rfl
 liesBuilder:=by kernel_rfl
 t5:=Tryz.underlying5
 a5:=Tryz.isAgg5
 z5:=Tryz.sizeOf5
 v5:=Tryz.zeroValue5
 infoByte:=by kernel_rfl
 cellsByte:=by kernel_rfl
 sizeByte:=by kernel_rfl
 neB5:=by decide }
open Go.RowKit in
theorem Tryz.strings_Join (bk o c:Nat) (xs:List ByteArray) (sep:ByteArray) (w:World) (hcells:∀ (j:Nat) x,xs[j]?=some x→w.cell? ⟨bk,o+j,none⟩=some (.string x)) (hbk:bk<w.heap.size) (hN:xs.length≤140737488355328) (hcap:xs.length≤c) (hlen:(Lib.join (xs.map (·.data.toList)) sep.data.toList).length≤140737488355328) :
  Calls Tryz.prog 97 #[.slice (some ⟨bk,o,none⟩) xs.length c,.string sep] w fun e w'=>e=.returned (.string ⟨(Lib.join (xs.map (·.data.toList)) sep.data.toList).toArray⟩)∧Below w.heap.size w w':=Any.strings_Join Tryz.lays156 Tryz.Builder_Extra_156 bk o c xs sep w hcells hbk hN hcap hlen
end Go.Proofs
end
section
namespace Gus
open Go Go.RowKit Go.Proofs
def vecT (qs:List Rat):List UInt8:=91 :: (Lib.join (qs.map ratT) [32] ++ [93])
theorem info_str:(Tryz.prog.info? 9).map (fun i=>(i.zero,i.size,i.bytes))=some (some (.string ⟨#[]⟩),1,16):=by kernel_rfl
def sv (F:Nat→List UInt8) (n k:Nat):List Value:=(List.range n).map fun i=>if i<k then strV (F i) else strV []
theorem sv_length (F:Nat→List UInt8) (n k:Nat):(sv F n k).length=n:=by simp[sv]
theorem sv_zero (F:Nat→List UInt8) (n:Nat):sv F n 0=List.replicate n (strV []):=by
 unfold sv
 apply List.ext_getElem
 ·simp
 ·intro i h1 h2;simp
theorem sv_set (F:Nat→List UInt8) (n k:Nat):(sv F n k).set k (strV (F k))=sv F n (k+1):=by
 apply List.ext_getElem
 ·simp[sv]
 ·intro i h1 h2
  simp only[sv,List.getElem_set,List.getElem_map,List.getElem_range]
  by_cases h:k=i
  ·subst h;rw[if_pos rfl,if_pos (by omega)]
  ·rw[if_neg h]
   by_cases h2:i<k
   ·rw[if_pos h2,if_pos (by omega)]
   ·rw[if_neg h2,if_neg (by omega)]
theorem mk_strs (F:Nat→List UInt8) (L:Nat) (hL:L≤4096) (w:World):(Instr.makeSlice 160 (.int .i64 (L:Int)) (.int .i64 (L:Int))).run Tryz.prog w =
  .ok (.slice (some ⟨w.heap.size,0,none⟩) L L) (w.alloc (.cells (sv F L 0).toArray 9)):=by
 obtain⟨i0,hi,hz0,hz1,hz2⟩:=info_parts info_str
 have:=run_make (P:=Tryz.prog) w 160 9 i0 (.string ⟨#[]⟩) Tryz.underlying160 hi hz0 .i64 .i64 L L (by omega) (Int.le_refl _) (by rw[hz2];omega) (by omega)
 rw[this]
 simp only[Int.toNat_natCast,hz1,Nat.mul_one]
 have e:madeCells (Value.string ⟨#[]⟩).cells L=(List.replicate L (strV [])).toArray:=by
  apply Array.toList_inj.1
  rw[show(Value.string ⟨#[]⟩).cells=#[.string ⟨#[]⟩] from rfl,toList_madeCells_one]
 rw[e,sv_zero]
theorem lens_le {m:Nat}:∀ (xs:List (List UInt8)),(∀ x∈xs,x.length≤m)→Lib.lens xs≤xs.length*m
 | [],_=>by simp[Lib.lens]
 | x :: xs,h=>by
  have h1:=h x (.head _)
  have h2:=lens_le xs (fun y hy=>h y (List.mem_cons_of_mem _ hy))
  have e:Lib.lens (x :: xs)=x.length+Lib.lens xs:=by simp[Lib.lens]
  rw[e,List.length_cons,Nat.add_mul,Nat.one_mul];omega
theorem join_le {m:Nat} (xs:List (List UInt8)) (h:∀ x∈xs,x.length≤m):(Lib.join xs [32]).length≤xs.length*(m+1):=by
 cases xs with
 | nil=>simp[Lib.join]
 | cons x xs=>
  have:=lens_le (x :: xs) h
  rw[Lib.join_length,List.length_singleton,Nat.mul_add,Nat.mul_one]
  rw[List.length_cons] at this ⊢
  omega
set_option maxRecDepth 100000 in
set_option maxHeartbeats 2000000 in
theorem vtext_any (w0 w:World) (vv:Value) (qs:List Rat) (m:Nat) (hV:VecAt w vv qs) (hin:In w0.heap.size w0 w) (hl:qs.length≤2048) (hx:∀ i,i<qs.length→RatTx w0 (qs.getD i 0)∧(ratT (qs.getD i 0)).length≤m) (hcap:qs.length*(m+1)≤140737488355328) :
  Calls Tryz.prog 43 #[vv] w fun e w'=>e=.returned (strV (vecT qs))∧Below w.heap.size w w':=by
 obtain⟨va,vc,rfl⟩:=hV.shape
 obtain⟨L,hL⟩:∃ L,L=qs.length:=⟨_,rfl⟩
 have HX:=Lib.hid hx
 have HV:=Lib.hid hV
 have HI:=Lib.hid hin
 rw[←hL] at hl ⊢
 have HL:=Lib.hid hL
 obtain⟨F,hF⟩:∃ F:Nat→List UInt8,∀ i,F i=ratT (qs.getD i 0):=⟨_,fun _=>rfl⟩
 have HF:=Lib.hid hF
 clear hF
 have HMK:=Lib.hid (mk_strs F L (by omega))
 obtain⟨X,hX⟩:∃ X,X=w.heap.size:=⟨_,rfl⟩
 have HW:=Lib.hid hX
 have hmk:=HMK.out w
 have HC:=Lib.hid hcap
 clear hx hV hin hL hcap
 go_enter Tryz.func43,Tryz.ntmps43
 go_wp2_with fail
 have hv:=Bx.new_at w (sv F L 0).toArray 9 hX
 have hin:In X w (w.alloc (.cells (sv F L 0).toArray 9)):=by rw[hX];exact(In.self w).alloc _
 rw[←hX]
 clear hmk hX
 generalize w.alloc (.cells (sv F L 0).toArray 9)=W1 at *
 rw[List.toList_toArray] at hv
 go_loopw [11] (fun v11 wr=>∃ k:Nat,k≤L∧v11=.int .i64 k∧In X w wr∧Bx wr X 9 (sv F L k)) (fun v11 _=>L - (RowKit.intOf v11).toNat)
 case atStart=>exact⟨0,Nat.zero_le _,rfl,hin,hv⟩
 case round=>
  clear hin hv
  obtain⟨k,hk,rfl,hin,hv⟩:=hrel
  by_cases hkL:k<L
  ·obtain⟨b,off,cap,A1,A2,A3,A4,A5,hva,hb,hf1,hf2,e0,e1,e2,e3,e4⟩:=HV.out.at (i:=k) (by rw[←HL.out];exact hkL)
   simp only[Value.slice.injEq] at hva
   obtain⟨rfl,_,hcc⟩:=hva
   subst hcc
   have htx:=(HX.out k (by rw[←HL.out];exact hkL)).1
   rw[←HW.out] at hb
   rw[←hin.cell b _ hb] at e0 e1 e2 e3 e4
   have hbw:b<wr.heap.size:=by have:=hin.siz;omega
   have h1:=htx _ ((show In w.heap.size w (wr.alloc (.cells #[.int .u64 A1,.string A2,.bool A3,.int .u64 A4,.string A5] 72)) by rw[←HW.out];exact hin.alloc _).out HI.out HI.out.siz)
   rw[hf2] at h1
   obtain⟨tx,htxe⟩:∃ tx,tx=F k:=⟨_,rfl⟩
   rw[←HF.out k,←htxe] at h1
   have hkI:(k:Int)<L:=by omega
   have hk0:(0:Int)≤k:=by omega
   have hkw:IntKind.i64.wrap ((k:Int)+1)=((k+1:Nat):Int):=IntWalk.i64_in _ (by omega)
   have HT:=Lib.hid htxe
   clear hf1 hf2 htx htxe
   go_wp2_with fail
   ((with_reducible refine(h1).mono ?_))
   rintro e w2 ⟨rfl,hb2⟩
   have hin2:=(hin.alloc _).call hb2
   have hv2:=(hv.alloc _).call hb2
   have hc2:=hv2.cell k
   rw[List.getElem?_eq_getElem (by rw[sv_length];exact hkL)] at hc2
   have hf2:=hv2.frozen k
   have hvl:=hv2.lt
   have hs:=hv2.set k (strV tx)
   rw[HT.out,sv_set] at hs
   have HS:=Lib.hid hs
   have HI2:=Lib.hid (hin2.setCell (p:=⟨X,k,none⟩) (Nat.le_refl _) (strV tx))
   obtain⟨old,hold⟩:∃ old,old=(sv F L k)[k]'(by rw[sv_length];exact hkL):=⟨_,rfl⟩
   rw[←hold] at hc2
   clear hb2 hin hv e0 e1 e2 e3 e4 hbw hs h1 hin2 hv2 hold
   go_wp2_with fail
   exact⟨⟨k+1,by omega,by go_num,HI2.out,by have:=HS.out;rw[←HT.out] at this;exact this⟩,by simp[RowKit.intOf];omega⟩
  ·have hkL':k=L:=by omega
   have hkI:¬ (k:Int)<L:=by omega
   have hxs:((List.range L).map fun j=>(⟨(F j).toArray⟩:ByteArray)).length=L:=by simp
   have hj:Lib.join (((List.range L).map fun j=>(⟨(F j).toArray⟩:ByteArray)).map (·.data.toList)) [32]=Lib.join (qs.map ratT) [32]:=by
    congr 1
    rw[List.map_map]
    apply List.ext_getElem
    ·rw[List.length_map,List.length_range,List.length_map,HL.out]
    ·intro i h1 h2
     have hi:i<qs.length:=by simpa using h2
     rw[List.getElem_map,List.getElem_map,List.getElem_range,Function.comp_apply]
     show(F i).toArray.toList=_
     rw[HF.out i,List.toList_toArray,List.getD_eq_getElem?_getD,List.getElem?_eq_getElem hi];rfl
   have hjl:(Lib.join (qs.map ratT) [32]).length≤140737488355328:=by
    refine Nat.le_trans (join_le (m:=m) _ fun x hx=>?_) (by rw[List.length_map];exact HC.out)
    obtain⟨q,hq,rfl⟩:=List.mem_map.1 hx
    obtain⟨i,hi,rfl⟩:=List.getElem_of_mem hq
    have:=(HX.out i hi).2
    rw[List.getD_eq_getElem?_getD,List.getElem?_eq_getElem hi] at this
    exact this
   have hjoin:=Tryz.strings_Join X 0 L ((List.range L).map fun j=>(⟨(F j).toArray⟩:ByteArray)) ⟨#[32]⟩ wr (fun j x hx=>by
    have hjL:j<L:=by
     have:=(List.getElem?_eq_some_iff.1 hx).1
     rw[hxs] at this;exact this
    rw[List.getElem?_map,List.getElem?_range hjL] at hx
    rw[Nat.zero_add,hv.cell j]
    unfold sv
    rw[List.getElem?_map,List.getElem?_range hjL,hkL']
    cases hx
    simp only[Option.map_some,if_pos hjL]) hv.lt (by rw[hxs];omega) (by rw[hxs];exact Nat.le_refl _) (by rw[show(⟨#[32]⟩:ByteArray).data.toList=[32] from rfl,hj];exact hjl)
   rw[hxs,show(⟨#[32]⟩:ByteArray).data.toList=[32] from rfl,hj] at hjoin
   obtain⟨lj,hlj⟩:∃ lj,lj=Lib.join (qs.map ratT) [32]:=⟨_,rfl⟩
   rw[←hlj] at hjoin hjl
   have HLJ:=Lib.hid hlj
   clear hlj
   have e1:¬ 9223372036854775807<1+lj.length:=by omega
   have e2:¬ 9223372036854775807<1+lj.length+1:=by omega
   have HJ:=Lib.hid hjl
   have HKL:=Lib.hid hkL'
   clear hxs hj hjl hv hkL'
   go_wp2_with fail
   (with_reducible refine hjoin.mono ?_)
   rintro e w2 ⟨rfl,hb2⟩
   have hin2:=hin.call hb2
   clear hjoin hb2 hin
   go_wp2_with fail
   go_ret
   have e:({ data:=#[91] } ++ { data:=lj.toArray } ++ { data:=#[93] }:ByteArray)=⟨(vecT qs).toArray⟩:=by
    unfold vecT
    rw[←HLJ.out,show(⟨#[91]⟩:ByteArray)=⟨[91].toArray⟩ from rfl,show(⟨#[93]⟩:ByteArray)=⟨[93].toArray⟩ from rfl]
    simp only[bcat]
    simp
   exact⟨str_eq e,by rw[←HW.out];exact hin2.bel⟩
end Gus
end
section
namespace Gus
open Go Go.RowKit Go.Proofs
theorem two {i:Nat} (h:i<2):i=0∨i=1:=by omega
theorem ratTx_small (w0:World) (q:Rat) (h1:q.num.natAbs<100) (h2:q.den<100):RatTx w0 q∧(ratT q).length≤10:=by
 constructor
 ·intro W hW
  exact ratText_any (C:=In w0.heap.size w0) (fun W W' h hb=>h.call hb) q (fun W _=>natText_small _ h1 W) (fun W _=>natText_small _ h2 W) (by have:=natT_small h1;omega) (by have:=natT_small h2;omega) (Wl_of (i:=7) (by omega) (by decide)) W hW
 ·have a:=natT_small h1
  have b:=natT_small h2
  have c:=intT_length q.num
  unfold ratT
  split
  ·omega
  ·rw[List.length_append,List.length_cons];omega
end Gus
end
section
namespace Gus
open Go Go.RowKit Go.Proofs
theorem BB.call {w w':World} {p b n N M:Nat} {f:Nat→Nat→Rat} (h:BB w p b n N M f) (hb:Below w.heap.size w w'):BB w' p b n N M f:=⟨h.1.call hb,h.2.call hb⟩
theorem BB.alloc {w:World} {p b n N M:Nat} {f:Nat→Nat→Rat} (h:BB w p b n N M f) (o:Obj):BB (w.alloc o) p b n N M f:=⟨h.1.alloc o,h.2.alloc o⟩
theorem BB.ext {w:World} {p b n N M:Nat} {f g:Nat→Nat→Rat} (h:BB w p b n N M f) (hg:∀ i k,i<N→k<M→g i k=f i k):BB w p b n N M g:=⟨h.1,h.2.ext hg⟩
theorem In.grown {N:Nat} {W0 w w':World} {b:Nat} (h:In N W0 w) (hg:w.grownBy w' (some b)) (hb:N≤b):In N W0 w':=
 ⟨h.bel.grown hg h.siz (fun k h=>by cases h;exact hb),Nat.le_trans h.siz hg.size⟩
end Gus
end
