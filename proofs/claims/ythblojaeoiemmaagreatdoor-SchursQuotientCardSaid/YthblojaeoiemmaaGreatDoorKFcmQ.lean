/- Proved here: parts of the proof: KFcm KIng KCgv KVmx KCga KArgD KArgE KLws KElm. Conditions: those that each theorem states. -/
import Derived.Test.YthblojaeoiemmaaGreatDoorKCgmQ
import Derived.Test.YthblojaeoiemmaaGreatDoorKPdnQ
import Derived.Deep.Slices
import Derived.Deep.Strs
section
namespace Gus
open Go Go.RowKit Go.Proofs
theorem neg_sgn (a:Int):sgn (!decide (a<0)) a.natAbs=-a:=by
 unfold sgn
 by_cases h:a<0
 ·simp[h];omega
 ·simp[h];omega
theorem isign_zero (z:Int):isign z=0↔z=0:=by unfold isign;split <;> (try split) <;> omega
end Gus
end
section
namespace Gus
open Go Go.RowKit Go.Proofs
set_option maxRecDepth 100000 in
theorem ineg_any (a:Int) (w:World) :
  Calls Tryz.prog 161 #[intV a] w fun e w'=>e=.returned (intV (-a))∧Below w.heap.size w w':=by
 have h0:=from_any (!decide (a<0)) a.natAbs
 rw[neg_sgn] at h0
 obtain⟨z,hz⟩:∃ z,z=-a:=⟨_,rfl⟩
 rw[←hz] at h0 ⊢
 unfold intV at h0 ⊢
 obtain⟨p,hp⟩:∃ p,p=decide (a<0):=⟨_,rfl⟩
 rw[←hp] at h0 ⊢
 clear hz hp
 go_enter Tryz.func161,Tryz.ntmps161
 go_wp2_with fail
 (refine(h0 _).mono ?_;rintro e w' ⟨rfl,hb⟩;have h:=tsz ((In.self _).call hb);clear hb;have hc:=h.cell;have hf:=h.frozen)
 go_wp2_with fail
 exact bodyPost_ret (v:=.agg #[.int .u64 (lo z.natAbs),.string (bg z.natAbs),.bool (decide (z<0))]) (by simp[results,Tryz.results161,go_sem, *]) rfl ⟨rfl,by exact tfin⟩
set_option maxRecDepth 100000 in
theorem fneg_any (q:Rat) (w:World) :
  Calls Tryz.prog 127 #[fracV q] w fun e w'=>e=.returned (fracV (-q))∧Below w.heap.size w w':=by
 have h1:=ineg_any q.num
 rw[←Rat.neg_num] at h1
 have hd:q.den=(-q).den:=(Rat.neg_den q).symm
 obtain⟨r,hr⟩:∃ r,r=-q:=⟨_,rfl⟩
 rw[←hr] at h1 hd ⊢
 unfold fracV
 rw[hd]
 clear hr hd
 go_enter Tryz.func127,Tryz.ntmps127
 go_wp2_with fail
 refine wp_region_tail (In _ _) 6 (by kernel_rfl) (by kernel_rfl) (In.drew (In.self _)) ?_;simp only[List.take_succ_cons,List.take_zero,List.drop_succ_cons,List.drop_zero];(repeat (first | refine tqs ?_ |((first |((with_reducible refine wpQuiet_run0 (v:=?_) ?_ ?_ ?_);rotate_left 1;exact trr)|((with_reducible refine wpQuiet_rung (v:=?_) (j:=?_) (b:=?_) ?_ ?_ ?_ ?_);rotate_left 3;exact trr;exact trf));(focus (intro w' hw';(try simp only[World.size_alloc] at hw');go_simp;go_at_call 161;refine(h1 _).mono ?_;rintro e w'' ⟨rfl,hb⟩;refine⟨?_,hw'.call hb⟩;exact rfl));refine tput ?_)));refine wpQuiet_nil ?_;(try clear hc hf h);intro w' h;replace h:=tsz h;have hc:=h.cell;have hf:=h.frozen
 go_wp2_with fail
 exact bodyPost_ret (v:=fracV r) (by simp[results,Tryz.results127,go_sem, *]) rfl ⟨rfl,by exact tfin⟩
set_option maxRecDepth 100000 in
theorem fsub_any {i j:Nat} (a b:Rat) (ha:SzK i a) (hb:SzK j b) (hij:i+j+1<17592186044416) (w:World) :
  Calls Tryz.prog 88 #[fracV a,fracV b] w fun e w'=>e=.returned (fracV (a - b))∧Below w.heap.size w w':=by
 have h1:=fneg_any b
 have h2:=fadd_any a (-b) ha hb.neg hij
 rw[←Rat.sub_eq_add_neg] at h2
 obtain⟨r,hr⟩:∃ r,r=-b:=⟨_,rfl⟩
 rw[←hr] at h1 h2
 clear ha hb hr
 go_enter Tryz.func88,Tryz.ntmps88
 go_wp2_with fail
 refine wp_region_tail (In _ _) 4 (by kernel_rfl) (by kernel_rfl) (In.drew (In.self _)) ?_;simp only[List.take_succ_cons,List.take_zero,List.drop_succ_cons,List.drop_zero];(repeat (first | refine tqs ?_ |((first |((with_reducible refine wpQuiet_run0 (v:=?_) ?_ ?_ ?_);rotate_left 1;exact trr)|((with_reducible refine wpQuiet_rung (v:=?_) (j:=?_) (b:=?_) ?_ ?_ ?_ ?_);rotate_left 3;exact trr;exact trf));(focus (intro w' hw';(try simp only[World.size_alloc] at hw');go_simp;first |(go_at_call 127;refine(h1 _).mono ?_;rintro e w'' ⟨rfl,hb⟩;refine⟨?_,hw'.call hb⟩;exact rfl)|(go_at_call 74;refine(h2 _).mono ?_;rintro e w'' ⟨rfl,hb⟩;refine⟨?_,hw'.call hb⟩;exact rfl)));refine tput ?_)));refine wpQuiet_nil ?_;(try clear hc hf h);intro w' h;replace h:=tsz h;have hc:=h.cell;have hf:=h.frozen
 go_wp2_with fail
 exact bodyPost_ret (v:=fracV (a - b)) (by simp[results,Tryz.results88,go_sem, *]) rfl ⟨rfl,by exact tfin⟩
end Gus
end
section
namespace Gus
open Go Go.RowKit Go.Proofs
def vl (n:Nat) (v:Vc):List Rat:=(List.range n).map v
theorem vl_length (n:Nat) (v:Vc):(vl n v).length=n:=by simp[vl]
theorem vl_getD {n i:Nat} (v:Vc) (hi:i<n):(vl n v).getD i 0=v i:=by simp[vl,hi]
theorem vl_congr {n:Nat} {u v:Vc} (h:∀ i,i<n→u i=v i):vl n u=vl n v:=List.map_congr_left fun i hi=>h i (List.mem_range.1 hi)
theorem vl_szk {n m:Nat} {v:Vc} (h:∀ i,i<n→SzK m (v i)) (hm:0<m) (i:Nat):SzK m ((vl n v).getD i 0):=by
 by_cases hi:i<n
 ·rw[vl_getD v hi];exact h i hi
 ·rw[List.getD_eq_getElem?_getD,List.getElem?_eq_none (by rw[vl_length];omega)]
  exact SzK.zero.mono hm
theorem sumTo_sm (F:Nat→Rat):∀ n,sumTo F n=sm F n
 | 0=>rfl
 | n+1=>by rw[sumTo,sm,sumTo_sm F n]
theorem mappL_vl (n:Nat) (F:Nat→Nat→Rat) (v:Vc):mappL n n (dense n n F) (vl n v)=vl n (mv n F v):=by
 unfold mappL
 refine List.map_congr_left fun i hi=>?_
 have hi:=List.mem_range.1 hi
 unfold dotV mv
 rw[sumTo_sm]
 refine sm_congr n fun k hk=>?_
 rw[rowV_getD _ _ hk,vl_getD v hk]
 unfold mvals
 rw[dense_getD F hi hk]
theorem spm_dense {w:World} {s:Value} {n:Nat} {F:Nat→Nat→Rat} (h:SpM w s n n F):SpM w s n n (mvals n (dense n n F)):=by
 unfold SpM at h ⊢
 rw[mrows_congr (f:=mvals n (dense n n F)) (g:=F) fun i k hi hk=>dense_getD F hi hk]
 exact h
theorem dense_szk {n m:Nat} {F:Nat→Nat→Rat} (h:∀ i k,i<n→k<n→SzK m (F i k)) (hm:0<m) (i:Nat):SzK m ((dense n n F).getD i 0):=by
 by_cases hi:i<n*n
 ·obtain⟨h1,h2,_⟩:=pos_split hi
  have e:(dense n n F).getD i 0=F (i / n) (i % n):=by simp[dense,List.getD_eq_getElem?_getD,hi]
  rw[e];exact h _ _ h1 h2
 ·rw[List.getD_eq_getElem?_getD,List.getElem?_eq_none (by rw[dense_length];omega)]
  exact SzK.zero.mono hm
theorem sapp_vl {j l n:Nat} (w:World) (s y:Value) (F:Nat→Nat→Rat) (v:Vc) (hs:SpM w s n n F) (hy:VecAt w y (vl n v)) (hn:n≤64) (hF:∀ i k,i<n→k<n→SzK j (F i k)) (hv:∀ i,i<n→SzK l (v i)) (hj:0<j) (hl:0<l) (hcap:n*n*(j+l+1)+1<17592186044416) :
  Calls Tryz.prog 28 #[s,y] w fun e w'=>(∃ d,e=.returned (.tuple #[d,.int .i64 0])∧VecAt w' d (vl n (mv n F v)))∧Below w.heap.size w w':=by
 have:=sapp_any (j:=j) (l:=l) w s y n n n (dense n n F) (vl n v) (spm_dense hs) hy (vl_length _ _) (by omega) (by omega) (by omega) (dense_szk hF hj) (vl_szk hv hl) hcap
 refine this.mono ?_
 rintro e w' ⟨⟨d,e',h1,h2⟩,hb⟩
 refine⟨?_,hb⟩
 rcases h2 with ⟨h3,_⟩|⟨_,rfl,h3⟩
 ·simp at h3
 ·rw[mappL_vl] at h3
  exact⟨d,h1,h3⟩
end Gus
end
section
namespace Gus
open Go Go.RowKit Go.Proofs
set_option maxRecDepth 100000 in
set_option maxHeartbeats 1000000 in
theorem vsub_vl {j l n:Nat} (w:World) (x y:Value) (u v:Vc) (hx:VecAt w x (vl n u)) (hy:VecAt w y (vl n v)) (hn:n≤64) (hu:∀ i,i<n→SzK j (u i)) (hv:∀ i,i<n→SzK l (v i)) (hcap:j+l+1<17592186044416) :
  Calls Tryz.prog 38 #[x,y] w fun e w'=>(∃ d,e=.returned (.tuple #[d,.int .i64 0])∧VecAt w' d (vl n fun i=>u i - v i))∧Below w.heap.size w w':=by
 have eg:∀ args w,(callFunc 88 args).run Tryz.prog w=.ok (.enter 88 args) w:=enters_of Tryz.func88 (by kernel_rfl) rfl
 have h1:=fun W (h:In w.heap.size w W)=>veach_any (· - ·) W x y (vl n u) (vl n v) n 88 #[] (hx.call h.bel) (hy.call h.bel) (vl_length _ _) (vl_length _ _) (by omega) eg (fun i W2 hi _=>by
  rw[vl_getD u hi,vl_getD v hi];exact fsub_any _ _ (hu i hi) (hv i hi) hcap W2)
 have e:((List.range n).map fun i=>(vl n u).getD i 0 - (vl n v).getD i 0)=vl n fun i=>u i - v i:=List.map_congr_left fun i hi=>by rw[vl_getD u (List.mem_range.1 hi),vl_getD v (List.mem_range.1 hi)]
 simp only[e] at h1
 obtain⟨a,k,rfl⟩:=hx.shape
 obtain⟨a',k',rfl⟩:=hy.shape
 simp only[vl_length] at h1
 rw[vl_length,vl_length]
 obtain⟨L,hL⟩:∃ L,L=vl n fun i=>u i - v i:=⟨_,rfl⟩
 have hLn:L.length=n:=by rw[hL,vl_length]
 rw[←hL]
 rw[←hL] at h1
 have HL:=Lib.hid hLn
 clear hx hy hu hv hcap e eg hL hLn
 go_enter Tryz.func38,Tryz.ntmps38
 go_wp2_with fail
 ((with_reducible refine(h1 _ (In.self _)).mono ?_))
 rintro e w2 ⟨⟨d,rfl,hd⟩,hb⟩
 obtain⟨da,dk,rfl⟩:=hd.shape
 rw[HL.out] at hd ⊢
 have HD:=Lib.hid hd
 clear hd h1
 go_wp2_with fail
 exact bodyPost_ret (v:=.tuple #[.slice da n dk,.int .i64 0]) (by simp[results,Tryz.results38,go_sem]) rfl ⟨⟨_,rfl,HD.out⟩,hb⟩
end Gus
end
section
namespace Gus
open Go Go.RowKit Go.Proofs
def TupS (x:Value):Prop:=∃ a l k e,x=.tuple #[.slice a l k,.int .i64 e]
def MvS (y x:Value):Prop:=x=y∧TupS x
def FstS (y x:Value):Prop:=∃ a l k e,y=.tuple #[.slice a l k,.int .i64 e]∧x=.slice a l k
def SndS (y x:Value):Prop:=∃ a l k e,y=.tuple #[.slice a l k,.int .i64 e]∧x=.int .i64 e
def TupV (L:List Rat) (x:Value) (w:World):Prop:=TupS x∧∃ d,x=.tuple #[d,.int .i64 0]∧VecAt w d L
theorem stable_tupv (L:List Rat):Stable (TupV L):=fun _ _ _ ⟨h1,d,h2,h3⟩ hs=>⟨h1,d,h2,h3.call hs⟩
def VcQ (L:List Rat) (x:Value) (w:World):Prop:=VecAt w x L
theorem stable_vcq (L:List Rat):Stable (VcQ L):=fun _ _ _ h hs=>VecAt.call h hs
theorem VcQ.v {L:List Rat} {x:Value} {w:World} (h:VcQ L x w):VecAt w x L:=h
theorem tupv_mk {w w':World} {L:List Rat} {e:Ending} (h:(∃ d,e=.returned (.tuple #[d,.int .i64 0])∧VecAt w' d L)∧Below w.heap.size w w'):(∃ v,e=.returned v∧TupV L v w')∧Below w.heap.size w w':=by
 obtain⟨⟨d,h1,h2⟩,hb⟩:=h
 obtain⟨a,k,h3⟩:=h2.shape
 exact⟨⟨_,h1,⟨_,_,_,_,by rw[h3]⟩,d,rfl,h2⟩,hb⟩
theorem tupv_out {L:List Rat} {w:World} {x y z t:Value} (h3:TupV L x w) (h4:MvS x y) (h5:FstS y z) (h6:SndS y t) :
  ∃ a k,x=.tuple #[.slice a L.length k,.int .i64 0]∧y=.tuple #[.slice a L.length k,.int .i64 0]∧z=.slice a L.length k∧t=.int .i64 0∧VecAt w (.slice a L.length k) L:=by
 obtain⟨_,d,rfl,hd⟩:=h3
 obtain⟨a,k,rfl⟩:=hd.shape
 obtain⟨rfl,_⟩:=h4
 obtain⟨a1,l1,k1,e1,h7,rfl⟩:=h5
 obtain⟨a2,l2,k2,e2,h8,rfl⟩:=h6
 simp only[Value.tuple.injEq] at h7 h8
 have h9:=congrArg Array.toList h7
 have h10:=congrArg Array.toList h8
 simp only[List.cons.injEq,and_true,Value.slice.injEq,Value.int.injEq,true_and] at h9 h10
 obtain⟨⟨rfl,rfl,rfl⟩,rfl⟩:=h9
 obtain⟨_,rfl⟩:=h10
 exact⟨_,_,rfl,rfl,rfl,rfl,hd⟩
def SysV (w:World) (s:Value) (n:Nat) (A:Nat→Nat→Rat) (b:Vc):Prop:=∃ ra rc ba bc,s=.agg #[.int .i64 n,.int .i64 n,.slice ra n rc,.slice ba n bc]∧SpM w (.agg #[.int .i64 n,.int .i64 n,.slice ra n rc]) n n A∧VecAt w (.slice ba n bc) (vl n b)
theorem SysV.call {w w':World} {s:Value} {n:Nat} {A:Nat→Nat→Rat} {b:Vc} (h:SysV w s n A b) (hb:Below w.heap.size w w'):SysV w' s n A b:=by
 obtain⟨ra,rc,ba,bc,h1,h2,h3⟩:=h
 exact⟨ra,rc,ba,bc,h1,h2.call hb,h3.call hb⟩
end Gus
end
section
namespace Gus
open Go Go.RowKit Go.Proofs Go.ChangeShapes Go.WideShapes Go.ChangeAt Go.Deep
abbrev TQ:=Nat×Nat×Int×Int
def TOk (l:List TQ):Prop:=∀ x∈l,x.1<256∧x.2.1<256∧-9223372036854775808≤x.2.2.1∧x.2.2.1<9223372036854775808∧0≤x.2.2.2∧x.2.2.2<4294967296
def TAt (w:World) (a:Option Addr) (l:List TQ):Prop:=∀ k,k<l.length→∃ b off,a=some ⟨b,off,none⟩∧b<w.heap.size∧w.cell? ⟨b,off+k*4,none⟩=some (.int .u8 (l.getD k (0,0,0,0)).1)∧w.cell? ⟨b,off+k*4+1,none⟩=some (.int .u8 (l.getD k (0,0,0,0)).2.1) ∧
 w.cell? ⟨b,off+k*4+2,none⟩=some (.int .i64 (l.getD k (0,0,0,0)).2.2.1)∧w.cell? ⟨b,off+k*4+3,none⟩=some (.int .u32 (l.getD k (0,0,0,0)).2.2.2)
theorem TAt.call {w w':World} {a:Option Addr} {l:List TQ} (h:TAt w a l) (hb:Below w.heap.size w w'):TAt w' a l:=fun k hk=>by
 obtain⟨b,off,h1,h2,c0,c1,c2,c3⟩:=h k hk
 exact⟨b,off,h1,Nat.lt_of_lt_of_le h2 hb.size,by rw[hb.cell (p:=⟨b,off+k*4,none⟩) h2];exact c0,by rw[hb.cell (p:=⟨b,off+k*4+1,none⟩) h2];exact c1,
  by rw[hb.cell (p:=⟨b,off+k*4+2,none⟩) h2];exact c2,by rw[hb.cell (p:=⟨b,off+k*4+3,none⟩) h2];exact c3⟩
section
variable {H:Type} {enc:TypeId×Value→H} {W:World} {base:Nat} {sp:Nat→Bool} {held:Bool}
set_option maxRecDepth 100000 in
theorem open_ts {fuel:Nat} {cs:List Value} {x:DataW H×List MemPlace} (h:DataW.trod enc Tryz.prog W base sp held fuel 49 cs=some x) :
  ∃ a l cap,cs=[.slice a (List.length l) cap]∧TAt W a l∧TOk l∧l.length≤maxLen:=by
 rcases open_slice Tryz.underlying49 h with ⟨rfl,_⟩|⟨a,len,cap,m,n,D,Pl,rfl,hb,hlc,hcm,hm,_,hx⟩
 ·exact⟨none,[],0,rfl,fun i hi=>absurd hi (Nat.not_lt_zero _),fun p hp=>by(cases hp),Nat.zero_le _⟩
 ·have hlm:len≤m:=by rw[hm];split <;> omega
  have each:∀ i,i<len→∃ q:TQ,W.cell? (a.add (i*4))=some (.int .u8 q.1)∧W.cell? (a.add (i*4+1))=some (.int .u8 q.2.1)∧W.cell? (a.add (i*4+2))=some (.int .i64 q.2.2.1)∧W.cell? (a.add (i*4+3))=some (.int .u32 q.2.2.2) ∧
    q.1<256∧q.2.1<256∧-9223372036854775808≤q.2.2.1∧q.2.2.1<9223372036854775808∧0≤q.2.2.2∧q.2.2.2<4294967296:=by
   intro i hi
   obtain⟨cs',h1,h2⟩:=hx i (by omega)
   rw[show Tryz.prog.cellsOf 122=4 by kernel_rfl] at h1
   obtain⟨_,hlen,hcell⟩:=World.cells?_some h1
   obtain⟨y0,y1,y2,k,_,_,g0,g1,g2⟩:=trod_struct3 Tryz.underlying122 h2
   match cs',hlen with
   | [v0,v1,v2,v3],_=>
    obtain⟨z0,e0,_,w0⟩:=DataW.trod_int Tryz.underlying5 g0
    obtain⟨z1,e1,_,w1⟩:=DataW.trod_int Tryz.underlying5 g1
    obtain⟨u0,u1,_,_,_,g3,g4⟩:=trod_struct2 Tryz.underlying101 g2
    obtain⟨z2,e2,_,w2⟩:=DataW.trod_int Tryz.underlying2 g3
    obtain⟨z3,e3,_,w3⟩:=DataW.trod_int Tryz.underlying99 g4
    simp[show Tryz.prog.cellsOf 5=1 by kernel_rfl,show Tryz.prog.cellsOf 2=1 by kernel_rfl,show Tryz.prog.cellsOf 99=1 by kernel_rfl,show Tryz.prog.cellsOf 101=2 by kernel_rfl] at e0 e1 e2 e3
    subst e0 e1 e2 e3
    have b0:=bounds_u8 w0
    have b1:=bounds_u8 w1
    have b2:=bounds_i64 w2
    have b3:=bounds_u32 w3
    have f0:=hcell 0 (by omega)
    have f1:=hcell 1 (by omega)
    have f2:=hcell 2 (by omega)
    have f3:=hcell 3 (by omega)
    rw[add_add] at f0 f1 f2 f3
    obtain⟨z0,rfl⟩:=Int.eq_ofNat_of_zero_le b0.1
    obtain⟨z1,rfl⟩:=Int.eq_ofNat_of_zero_le b1.1
    exact⟨(z0,z1,z2,z3),by simpa using f0,by simpa using f1,by simpa using f2,by simpa using f3,(by show z0<_;omega),(by show z1<_;omega),b2.1,(by show z2<_;omega),b3.1,(by show z3<_;omega)⟩
  obtain⟨q,hq⟩:=choose_lt each
  have hlen:((List.range len).map q).length=len:=by simp
  refine⟨some a,(List.range len).map q,cap,by rw[hlen],fun k hk=>?_,fun p hp=>?_,by rw[hlen];omega⟩
  ·rw[hlen] at hk
   obtain⟨c0,c1,c2,c3,_⟩:=hq k hk
   obtain⟨b,off,spot⟩:=a
   obtain rfl:spot=none:=by
    have hs:=World.cell?_spot (hq 0 (by omega)).1
    simpa[Addr.add] using hs
   rw[add_plain] at c0 c1 c2 c3
   have e:((List.range len).map q).getD k (0,0,0,0)=q k:=by simp[hk]
   rw[e]
   exact⟨b,off,rfl,cell_in c0,c0,by rw[Nat.add_assoc];exact c1,by rw[Nat.add_assoc];exact c2,by rw[Nat.add_assoc];exact c3⟩
  ·obtain⟨i,hi,rfl⟩:=List.mem_map.1 hp
   exact(hq i (List.mem_range.1 hi)).2.2.2.2
end
end Gus
end
section
namespace Gus
open Go Go.RowKit Go.Proofs Go.ChangeShapes Go.WideShapes Go.ChangeAt Go.Deep
section
variable {H:Type} {enc:TypeId×Value→H} {W:World} {base:Nat} {sp:Nat→Bool} {held:Bool}
set_option maxRecDepth 100000 in
theorem open_s {b0:Nat} {v:Value} {d:DataW H} {ps:List MemPlace} (hval:Value.okWide Tryz.prog W .any b0 51 v) (hd:DataW.Trod enc Tryz.prog W base sp held 51 v d ps) :
  ∃ (N:Nat) (a:Option Addr) (l:List TQ) (cap:Nat),v=.agg #[.int .u8 N,.slice a l.length cap]∧N<256∧TAt W a l∧TOk l∧l.length≤maxLen:=by
 obtain⟨cs,rfl,hs⟩:=okWide_struct Tryz.underlying51 hval
 obtain⟨fuel,hf⟩:=hd
 rw[show Tryz.prog.cellsOf 51=2 by kernel_rfl] at hs
 obtain⟨x,y,rfl⟩:∃ x y,cs=#[x,y]:=by
  rcases cs with ⟨l⟩
  match l,hs with
  | [x,y],_=>exact⟨x,y,rfl⟩
 obtain⟨y0,y1,m,_,_,h0,h1⟩:=trod_struct2 Tryz.underlying51 hf
 obtain⟨n,g0,_,w0⟩:=DataW.trod_int Tryz.underlying5 h0
 obtain⟨a,l,cap,g1,k1,k2,k3⟩:=open_ts h1
 simp[Value.cells,show Tryz.prog.cellsOf 5=1 by kernel_rfl,show Tryz.prog.cellsOf 49=1 by kernel_rfl] at g0 g1
 subst g0 g1
 have b0:=bounds_u8 w0
 obtain⟨n,rfl⟩:=Int.eq_ofNat_of_zero_le b0.1
 exact⟨n,a,l,cap,rfl,by omega,k1,k2,k3⟩
end
end Gus
end
section
namespace Gus
open Go Go.RowKit Go.Proofs
set_option maxRecDepth 100000 in
theorem size_any (N n cap most:Nat) (a:Option Addr) (hN:N<256) (hm:most≤1000) (w:World) :
  Calls Tryz.prog 56 #[.agg #[.int .u8 N,.slice a n cap],.int .i64 most] w fun e w'=>e=.returned (.int .i64 ((N % (most+1):Nat):Int))∧Below w.heap.size w w':=by
 have h1:IntKind.i64.wrap ((most:Int)+1)=((most+1:Nat):Int):=IntWalk.i64_in _ (by omega)
 have h2:¬ ((most+1:Nat):Int)=0:=by omega
 have h3:IntKind.i64.wrap (N:Int)=N:=IntWalk.i64_in _ (by omega)
 have h4:(N:Int).tmod ((most+1:Nat):Int)=((N % (most+1):Nat):Int):=(Int.ofNat_tmod _ _).symm
 have h5:IntKind.i64.wrap ((N % (most+1):Nat):Int)=((N % (most+1):Nat):Int):=IntWalk.i64_in _ (by have:=Nat.mod_lt N (show 0<most+1 by omega);omega)
 go_enter Tryz.func56,Tryz.ntmps56
 go_wp2_with fail
 go_ret
 exact⟨rfl,by exact tfin⟩
end Gus
end
section
namespace Gus
abbrev Mx:=Nat→Nat→Rat
theorem rdiv_self {a:Rat} (h:a≠0):a / a=1:=by rw[Rat.div_def,Rat.mul_inv_cancel _ h]
def rowSwap (M:Mx) (i t:Nat):Mx:=fun r c=>if r=i then M t c else if r=t then M i c else M r c
def rowClear (M:Mx) (t k:Nat):Mx:=fun r c=>if r=t then M t c / M t k else M r c - M r k*(M t c / M t k)
def pivF (M:Mx) (k:Nat):Nat→Nat→Option Nat
 | 0,_=>none
 | d+1,i=>if M i k=0 then pivF M k d (i+1) else some i
theorem pivF_none {M:Mx} {k:Nat}:∀ {d i:Nat},pivF M k d i=none→∀ r,i≤r→r<i+d→M r k=0
 | 0,i,_,r,h1,h2=>by omega
 | d+1,i,h,r,h1,h2=>by
  unfold pivF at h
  by_cases e:M i k=0
  ·rw[if_pos e] at h
   by_cases hr:r=i
   ·subst hr;exact e
   ·exact pivF_none h r (by omega) (by omega)
  ·rw[if_neg e] at h;cases h
theorem pivF_some {M:Mx} {k:Nat}:∀ {d i p:Nat},pivF M k d i=some p→i≤p∧p<i+d∧M p k≠0∧∀ r,i≤r→r<p→M r k=0
 | 0,i,p,h=>by cases h
 | d+1,i,p,h=>by
  unfold pivF at h
  by_cases e:M i k=0
  ·rw[if_pos e] at h
   obtain⟨h1,h2,h3,h4⟩:=pivF_some h
   refine⟨by omega,by omega,h3,fun r hr hp=>?_⟩
   by_cases hr2:r=i
   ·subst hr2;exact e
   ·exact h4 r (by omega) hp
  ·rw[if_neg e] at h
   injection h with h
   subst h
   exact⟨Nat.le_refl _,by omega,e,fun r h1 h2=>by omega⟩
structure El where
 M:Mx
 piv:List Nat
 det:Rat
def elStep (R:Nat) (s:El) (k:Nat):El:=
 match pivF s.M k (R - s.piv.length) s.piv.length with
 | none=>s
 | some i=>⟨rowClear (rowSwap s.M i s.piv.length) s.piv.length k,s.piv ++ [k],(if i=s.piv.length then s.det else -s.det)*rowSwap s.M i s.piv.length s.piv.length k⟩
def elim (R:Nat) (M:Mx):Nat→El
 | 0=>⟨M,[],1⟩
 | k+1=>elStep R (elim R M k) k
def Ker (R m:Nat) (M:Mx) (y:Nat→Rat):Prop:=∀ r,r<R→sm (fun c=>M r c*y c) m=0
theorem ker_swap {R m i t:Nat} {M:Mx} {y:Nat→Rat} (hi:i<R) (ht:t<R):Ker R m (rowSwap M i t) y↔Ker R m M y:=by
 have key:∀ M:Mx,Ker R m M y→Ker R m (rowSwap M i t) y:=fun M h r hr=>by
  unfold rowSwap
  by_cases h1:r=i
  ·simp only[if_pos h1];exact h t ht
  ·simp only[if_neg h1]
   by_cases h2:r=t
   ·simp only[if_pos h2];exact h i hi
   ·simp only[if_neg h2];exact h r hr
 refine⟨fun h=>?_,key M⟩
 have h2:=key _ h
 have e:rowSwap (rowSwap M i t) i t=M:=by
  funext r c
  unfold rowSwap
  by_cases h1:r=i
  ·subst h1
   by_cases h3:t=r
   ·subst h3;simp
   ·simp[h3]
  ·by_cases h3:r=t
   ·subst h3;simp[h1]
   ·simp[h1,h3]
 rwa [e] at h2
theorem ker_clear {R m t k:Nat} {M:Mx} {y:Nat→Rat} (ht:t<R) (hp:M t k≠0):Ker R m (rowClear M t k) y↔Ker R m M y:=by
 have e1:sm (fun c=>rowClear M t k t c*y c) m=(1 / M t k)*sm (fun c=>M t c*y c) m:=by
  rw[←sm_mul]
  refine sm_congr m fun c _=>?_
  unfold rowClear;rw[if_pos rfl];grind
 have e2:∀ r,r≠t→sm (fun c=>rowClear M t k r c*y c) m=sm (fun c=>M r c*y c) m+-(M r k / M t k)*sm (fun c=>M t c*y c) m:=fun r hr=>by
  rw[←sm_mul,←sm_add]
  refine sm_congr m fun c _=>?_
  unfold rowClear;rw[if_neg hr];grind
 constructor
 ·intro h
  have h1:=h t ht
  rw[e1] at h1
  have h2:sm (fun c=>M t c*y c) m=0:=by
   have:M t k*(1 / M t k*sm (fun c=>M t c*y c) m)=0:=by rw[h1,Rat.mul_zero]
   grind
  intro r hr
  by_cases e:r=t
  ·subst e;exact h2
  ·have h3:=h r hr
   rw[e2 r e,h2] at h3
   grind
 ·intro h r hr
  by_cases e:r=t
  ·subst e;rw[e1,h r ht];grind
  ·rw[e2 r e,h r hr,h t ht];grind
structure Red (R m k:Nat) (M0:Mx) (s:El):Prop where
 len:s.piv.length≤R
 asc:s.piv.Pairwise (·<·)
 lt:∀ p∈s.piv,p<k
 one:∀ p r,p<s.piv.length→r<R→s.M r (s.piv.getD p 0)=if r=p then 1 else 0
 zero:∀ r c,s.piv.length≤r→r<R→c<k→s.M r c=0
 left:∀ p c,p<s.piv.length→c<s.piv.getD p 0→s.M p c=0
 ker:∀ y,Ker R m s.M y↔Ker R m M0 y
theorem getD_snoc_lt {l:List Nat} {k p:Nat} (h:p<l.length):(l ++ [k]).getD p 0=l.getD p 0:=by
 simp only[List.getD_eq_getElem?_getD,List.getElem?_append_left h]
theorem getD_snoc_eq {l:List Nat} {k:Nat}:(l ++ [k]).getD l.length 0=k:=by
 simp[List.getD_eq_getElem?_getD]
theorem getD_mem {l:List Nat} {p:Nat} (h:p<l.length):l.getD p 0∈l:=by
 rw[List.getD_eq_getElem?_getD,List.getElem?_eq_getElem h];exact List.getElem_mem _
theorem elim_red (R m:Nat) (M:Mx):∀ k,Red R m k M (elim R M k)
 | 0=>⟨Nat.zero_le _,.nil,fun p h=>(nomatch h),fun p r h=>absurd h (Nat.not_lt_zero _),fun r c _ _ h=>absurd h (Nat.not_lt_zero _),fun p c h=>absurd h (Nat.not_lt_zero _),fun y=>Iff.rfl⟩
 | k+1=>by
  have ih:=elim_red R m M k
  show Red R m (k+1) M (elStep R (elim R M k) k)
  generalize elim R M k=s at *
  obtain⟨N,pv,dt⟩:=s
  obtain⟨hl,ha,hlt,h1,h0,hle,hk⟩:=ih
  simp only at hl ha hlt h1 h0 hle hk
  unfold elStep
  simp only
  cases hp:pivF N k (R - pv.length) pv.length with
  | none=>
   have hz:=pivF_none hp
   refine⟨hl,ha,fun p h=>by have:=hlt p h;omega,h1,fun r c hr hR hc=>?_,hle,hk⟩
   by_cases e:c=k
   ·subst e;exact hz r hr (by omega)
   ·exact h0 r c hr hR (by omega)
  | some i=>
   obtain⟨hi1,hi2,hi3,hi4⟩:=pivF_some hp
   have hiR:i<R:=by omega
   have htR:pv.length<R:=by omega
   have hpt:rowSwap N i pv.length pv.length k=N i k:=by
    unfold rowSwap
    by_cases e:pv.length=i
    ·rw[if_pos e,e]
    ·rw[if_neg e,if_pos rfl]
   have hpv:rowSwap N i pv.length pv.length k≠0:=by rw[hpt];exact hi3
   have hsw:∀ r c,r<pv.length→rowSwap N i pv.length r c=N r c:=fun r c hr=>by
    unfold rowSwap;rw[if_neg (by omega),if_neg (by omega)]
   have hs0:∀ r c,pv.length≤r→r<R→c<k→rowSwap N i pv.length r c=0:=fun r c hr hR hc=>by
    unfold rowSwap
    split
    ·exact h0 _ _ (Nat.le_refl _) htR hc
    ·split
     ·exact h0 _ _ hi1 hiR hc
     ·exact h0 _ _ hr hR hc
   refine⟨by simp only[List.length_append,List.length_singleton];omega, ?_,fun p h=>?_,fun p r h hr=>?_,fun r c hr hR hc=>?_,fun p c h hc=>?_,fun y=>?_⟩
   ·rw[List.pairwise_append]
    exact⟨ha,List.pairwise_singleton _ _,fun a h b hb=>by
     simp only[List.mem_singleton] at hb;subst hb;exact hlt a h⟩
   ·rw[List.mem_append,List.mem_singleton] at h
    rcases h with h | rfl
    ·have:=hlt p h;omega
    ·omega
   ·rw[List.length_append,List.length_singleton] at h
    show rowClear (rowSwap N i pv.length) pv.length k r ((pv ++ [k]).getD p 0)=_
    by_cases hpe:p=pv.length
    ·subst hpe
     rw[getD_snoc_eq]
     unfold rowClear
     by_cases e:r=pv.length
     ·rw[if_pos e,if_pos e];exact rdiv_self hpv
     ·rw[if_neg e,if_neg e,rdiv_self hpv];grind
    ·have hpl:p<pv.length:=by omega
     rw[getD_snoc_lt hpl]
     have hc:=hlt _ (getD_mem hpl)
     have ht0:=hs0 pv.length (pv.getD p 0) (Nat.le_refl _) htR hc
     unfold rowClear
     by_cases e:r=pv.length
     ·rw[if_pos e,if_neg (by omega),ht0];grind
     ·rw[if_neg e,ht0]
      by_cases hrl:r<pv.length
      ·rw[hsw r _ hrl,h1 p r hpl hr];grind
      ·rw[hs0 r _ (by omega) hr hc,if_neg (by omega)];grind
   ·rw[List.length_append,List.length_singleton] at hr
    show rowClear (rowSwap N i pv.length) pv.length k r c=0
    unfold rowClear
    rw[if_neg (by omega)]
    by_cases e:c=k
    ·subst e
     rw[rdiv_self hpv];grind
    ·rw[hs0 r c (by omega) hR (by omega),hs0 pv.length c (Nat.le_refl _) htR (by omega)];grind
   ·rw[List.length_append,List.length_singleton] at h
    show rowClear (rowSwap N i pv.length) pv.length k p c=0
    by_cases hpe:p=pv.length
    ·subst hpe
     rw[getD_snoc_eq] at hc
     unfold rowClear
     rw[if_pos rfl,hs0 _ _ (Nat.le_refl _) htR hc];grind
    ·have hpl:p<pv.length:=by omega
     rw[getD_snoc_lt hpl] at hc
     have hck:=hlt _ (getD_mem hpl)
     unfold rowClear
     rw[if_neg hpe,hsw p c hpl,hle p c hpl hc,hs0 pv.length c (Nat.le_refl _) htR (by omega)];grind
   ·show Ker R m (rowClear (rowSwap N i pv.length) pv.length k) y↔_
    rw[ker_clear htR hpv,ker_swap hiR htR];exact hk y
theorem range_getD {n p:Nat} (h:p<n):(List.range n).getD p 0=p:=by
 rw[List.getD_eq_getElem?_getD,List.getElem?_range h];rfl
theorem elim_range {R n:Nat} {M:Mx} (hR:n≤R) (h:∀ y,Ker R n M y→∀ i,i<n→y i=0):∀ k,k≤n→(elim R M k).piv=List.range k
 | 0,_=>rfl
 | k+1,hk=>by
  have ih:=elim_range hR h k (by omega)
  have hr:=elim_red R n M k
  show(elStep R (elim R M k) k).piv=_
  generalize elim R M k=s at *
  unfold elStep
  cases hp:pivF s.M k (R - s.piv.length) s.piv.length with
  | some i=>simp only;rw[ih,List.range_succ]
  | none=>
   exfalso
   have hl:s.piv.length=k:=by rw[ih,List.length_range]
   have hz:=pivF_none hp
   have h1:=h (fun c=>if c=k then 1 else if c<k then - s.M c k else 0) ((hr.ker _).1 fun r hrR=>by
    by_cases hrk:r<k
    ·have e:sm (fun c=>s.M r c*(if c=k then 1 else if c<k then - s.M c k else 0)) n=sm (fun c=>(if c=r then - s.M r k else 0)+(if c=k then s.M r k else 0)) n:=sm_congr n fun c hc=>by
      by_cases h1:c=k
      ·subst h1;rw[if_pos rfl,if_neg (by omega),if_pos rfl];grind
      ·rw[if_neg h1,if_neg h1]
       by_cases h2:c<k
       ·have h3:=hr.one c r (by omega) hrR
        rw[ih,range_getD h2] at h3
        rw[if_pos h2,h3]
        by_cases h4:r=c
        ·subst h4;rw[if_pos rfl,if_pos rfl];grind
        ·rw[if_neg h4,if_neg (Ne.symm h4)];grind
       ·rw[if_neg h2,if_neg (by omega)];grind
     rw[e,sm_add,sm_one (k:=r) (by omega) (fun i _ hi=>if_neg hi),if_pos rfl,sm_one (k:=k) (by omega) (fun i _ hi=>if_neg hi),if_pos rfl]
     grind
    ·rw[sm_congr n (G:=fun _=>0) fun c hc=>?_,sm_zero]
     by_cases h1:c=k
     ·subst h1;rw[hz r (by omega) (by omega)];grind
     ·rw[if_neg h1]
      by_cases h2:c<k
      ·rw[hr.zero r c (by omega) hrR h2];grind
      ·rw[if_neg h2];grind) k (by omega)
   rw[if_pos rfl] at h1
   exact absurd h1 (by decide +kernel)
def aug (n:Nat) (A:Mx) (b:Nat→Rat):Mx:=fun r c=>if c<n then A r c else b r
theorem solve_full {n:Nat} {A:Mx} {b:Nat→Rat} (h:∀ y,Ker n n A y→∀ i,i<n→y i=0) :
  (elim n (aug n A b) n).piv=List.range n∧∀ r,r<n→sm (fun c=>A r c*(elim n (aug n A b) n).M c n) n=b r:=by
 have e0:∀ y,Ker n n (aug n A b) y↔Ker n n A y:=fun y=>by
  have e:∀ r,sm (fun c=>aug n A b r c*y c) n=sm (fun c=>A r c*y c) n:=fun r=>sm_congr n fun c hc=>by unfold aug;rw[if_pos hc]
  exact⟨fun h r hr=>by rw[←e];exact h r hr,fun h r hr=>by rw[e];exact h r hr⟩
 have hp:=elim_range (R:=n) (Nat.le_refl n) (M:=aug n A b) (fun y hy=>h y ((e0 y).1 hy)) n (Nat.le_refl _)
 refine⟨hp, ?_⟩
 have hr:=elim_red n (n+1) (aug n A b) n
 generalize elim n (aug n A b) n=s at *
 have h1:=(hr.ker (fun c=>if c<n then s.M c n else -1)).1 fun r hrn=>by
  rw[sm,sm_congr n (G:=fun c=>if c=r then s.M r n else 0) fun c hc=>?_,sm_one (k:=r) hrn (fun i _ hi=>if_neg hi),if_pos rfl]
  ·show s.M r n+s.M r n*(if n<n then s.M n n else -1)=0
   rw[if_neg (Nat.lt_irrefl n)];grind
  ·show s.M r c*(if c<n then s.M c n else -1)=_
   rw[if_pos hc]
   have h3:=hr.one c r (by rw[hp,List.length_range];exact hc) hrn
   rw[hp,range_getD hc] at h3
   rw[h3]
   by_cases h4:r=c
   ·subst h4;rw[if_pos rfl,if_pos rfl];grind
   ·rw[if_neg h4,if_neg (Ne.symm h4)];grind
 intro r hrn
 have h2:=h1 r hrn
 rw[sm,sm_congr n (G:=fun c=>A r c*s.M c n) fun c hc=>by
  show(if c<n then A r c else b r)*(if c<n then s.M c n else -1)=_
  rw[if_pos hc,if_pos hc]] at h2
 have h3:sm (fun c=>A r c*s.M c n) n+(if n<n then A r n else b r)*(if n<n then s.M n n else -1)=0:=h2
 rw[if_neg (Nat.lt_irrefl n),if_neg (Nat.lt_irrefl n)] at h3
 grind
end Gus
end
