/- Proved here: parts of the proof: KCgb KFcm KIng KCgv KVmx KCga KArgD KArgE KLws. Conditions: those that each theorem states. -/
import Derived.Test.YthblojaeoiemmaaGreatDoorKRwaQ
import Derived.Deep.Slices
import Derived.Deep.Strs
section
namespace Gus
open Go Go.RowKit Go.Proofs
theorem neg_sgn (a:Int):sgn (!decide (a<0)) a.natAbs=-a:=by
 unfold sgn
 by_cases h:a<0
 ·simp[h];omega
 ·simp[h];omega
theorem isign_zero (z:Int):isign z=0↔z=0:=by unfold isign;split <;> (try split) <;> omega
end Gus
end
section
namespace Gus
open Go Go.RowKit Go.Proofs
set_option maxRecDepth 100000 in
theorem ineg_any (a:Int) (w:World) :
  Calls Tryz.prog 161 #[intV a] w fun e w'=>e=.returned (intV (-a))∧Below w.heap.size w w':=by
 have h0:=from_any (!decide (a<0)) a.natAbs
 rw[neg_sgn] at h0
 obtain⟨z,hz⟩:∃ z,z=-a:=⟨_,rfl⟩
 rw[←hz] at h0 ⊢
 unfold intV at h0 ⊢
 obtain⟨p,hp⟩:∃ p,p=decide (a<0):=⟨_,rfl⟩
 rw[←hp] at h0 ⊢
 clear hz hp
 go_enter Tryz.func161,Tryz.ntmps161
 go_wp2_with fail
 (refine(h0 _).mono ?_;rintro e w' ⟨rfl,hb⟩;have h:=tsz ((In.self _).call hb);clear hb;have hc:=h.cell;have hf:=h.frozen)
 go_wp2_with fail
 exact bodyPost_ret (v:=.agg #[.int .u64 (lo z.natAbs),.string (bg z.natAbs),.bool (decide (z<0))]) (by simp[results,Tryz.results161,go_sem, *]) rfl ⟨rfl,by exact tfin⟩
set_option maxRecDepth 100000 in
theorem fneg_any (q:Rat) (w:World) :
  Calls Tryz.prog 127 #[fracV q] w fun e w'=>e=.returned (fracV (-q))∧Below w.heap.size w w':=by
 have h1:=ineg_any q.num
 rw[←Rat.neg_num] at h1
 have hd:q.den=(-q).den:=(Rat.neg_den q).symm
 obtain⟨r,hr⟩:∃ r,r=-q:=⟨_,rfl⟩
 rw[←hr] at h1 hd ⊢
 unfold fracV
 rw[hd]
 clear hr hd
 go_enter Tryz.func127,Tryz.ntmps127
 go_wp2_with fail
 refine wp_region_tail (In _ _) 6 (by kernel_rfl) (by kernel_rfl) (In.drew (In.self _)) ?_;simp only[List.take_succ_cons,List.take_zero,List.drop_succ_cons,List.drop_zero];(repeat (first | refine tqs ?_ |((first |((with_reducible refine wpQuiet_run0 (v:=?_) ?_ ?_ ?_);rotate_left 1;exact trr)|((with_reducible refine wpQuiet_rung (v:=?_) (j:=?_) (b:=?_) ?_ ?_ ?_ ?_);rotate_left 3;exact trr;exact trf));(focus (intro w' hw';(try simp only[World.size_alloc] at hw');go_simp;go_at_call 161;refine(h1 _).mono ?_;rintro e w'' ⟨rfl,hb⟩;refine⟨?_,hw'.call hb⟩;exact rfl));refine tput ?_)| fail));refine wpQuiet_nil ?_;(try clear hc hf h);intro w' h;replace h:=tsz h;have hc:=h.cell;have hf:=h.frozen
 go_wp2_with fail
 exact bodyPost_ret (v:=fracV r) (by simp[results,Tryz.results127,go_sem, *]) rfl ⟨rfl,by exact tfin⟩
set_option maxRecDepth 100000 in
theorem fsub_any {i j:Nat} (a b:Rat) (ha:SzK i a) (hb:SzK j b) (hij:i+j+1<17592186044416) (w:World) :
  Calls Tryz.prog 88 #[fracV a,fracV b] w fun e w'=>e=.returned (fracV (a - b))∧Below w.heap.size w w':=by
 have h1:=fneg_any b
 have h2:=fadd_any a (-b) ha hb.neg hij
 rw[←Rat.sub_eq_add_neg] at h2
 obtain⟨r,hr⟩:∃ r,r=-b:=⟨_,rfl⟩
 rw[←hr] at h1 h2
 clear ha hb hr
 go_enter Tryz.func88,Tryz.ntmps88
 go_wp2_with fail
 refine wp_region_tail (In _ _) 4 (by kernel_rfl) (by kernel_rfl) (In.drew (In.self _)) ?_;simp only[List.take_succ_cons,List.take_zero,List.drop_succ_cons,List.drop_zero];(repeat (first | refine tqs ?_ |((first |((with_reducible refine wpQuiet_run0 (v:=?_) ?_ ?_ ?_);rotate_left 1;exact trr)|((with_reducible refine wpQuiet_rung (v:=?_) (j:=?_) (b:=?_) ?_ ?_ ?_ ?_);rotate_left 3;exact trr;exact trf));(focus (intro w' hw';(try simp only[World.size_alloc] at hw');go_simp;first |(go_at_call 127;refine(h1 _).mono ?_;rintro e w'' ⟨rfl,hb⟩;refine⟨?_,hw'.call hb⟩;exact rfl)|(go_at_call 74;refine(h2 _).mono ?_;rintro e w'' ⟨rfl,hb⟩;refine⟨?_,hw'.call hb⟩;exact rfl)));refine tput ?_)| fail));refine wpQuiet_nil ?_;(try clear hc hf h);intro w' h;replace h:=tsz h;have hc:=h.cell;have hf:=h.frozen
 go_wp2_with fail
 exact bodyPost_ret (v:=fracV (a - b)) (by simp[results,Tryz.results88,go_sem, *]) rfl ⟨rfl,by exact tfin⟩
end Gus
end
section
namespace Gus
open Go Go.RowKit Go.Proofs
def vl (n:Nat) (v:Vc):List Rat:=(List.range n).map v
theorem vl_length (n:Nat) (v:Vc):(vl n v).length=n:=by simp[vl]
theorem vl_getD {n i:Nat} (v:Vc) (hi:i<n):(vl n v).getD i 0=v i:=by simp[vl,hi]
theorem vl_congr {n:Nat} {u v:Vc} (h:∀ i,i<n→u i=v i):vl n u=vl n v:=List.map_congr_left fun i hi=>h i (List.mem_range.1 hi)
theorem vl_szk {n m:Nat} {v:Vc} (h:∀ i,i<n→SzK m (v i)) (hm:0<m) (i:Nat):SzK m ((vl n v).getD i 0):=by
 by_cases hi:i<n
 ·rw[vl_getD v hi];exact h i hi
 ·rw[List.getD_eq_getElem?_getD,List.getElem?_eq_none (by rw[vl_length];omega)]
  exact SzK.zero.mono hm
theorem sumTo_sm (F:Nat→Rat):∀ n,sumTo F n=sm F n
 | 0=>rfl
 | n+1=>by rw[sumTo,sm,sumTo_sm F n]
end Gus
end
section
namespace Gus
open Go Go.RowKit Go.Proofs
set_option maxRecDepth 100000 in
set_option maxHeartbeats 1000000 in
theorem vsub_vl {j l n:Nat} (w:World) (x y:Value) (u v:Vc) (hx:VecAt w x (vl n u)) (hy:VecAt w y (vl n v)) (hn:n≤64) (hu:∀ i,i<n→SzK j (u i)) (hv:∀ i,i<n→SzK l (v i)) (hcap:j+l+1<17592186044416) :
  Calls Tryz.prog 38 #[x,y] w fun e w'=>(∃ d,e=.returned (.tuple #[d,.int .i64 0])∧VecAt w' d (vl n fun i=>u i - v i))∧Below w.heap.size w w':=by
 have eg:∀ args w,(callFunc 88 args).run Tryz.prog w=.ok (.enter 88 args) w:=enters_of Tryz.func88 (by kernel_rfl) rfl
 have h1:=fun W (h:In w.heap.size w W)=>veach_any (· - ·) W x y (vl n u) (vl n v) n 88 #[] (hx.call h.bel) (hy.call h.bel) (vl_length _ _) (vl_length _ _) (by omega) eg (fun i W2 hi _=>by
  rw[vl_getD u hi,vl_getD v hi];exact fsub_any _ _ (hu i hi) (hv i hi) hcap W2)
 have e:((List.range n).map fun i=>(vl n u).getD i 0 - (vl n v).getD i 0)=vl n fun i=>u i - v i:=List.map_congr_left fun i hi=>by rw[vl_getD u (List.mem_range.1 hi),vl_getD v (List.mem_range.1 hi)]
 simp only[e] at h1
 obtain⟨a,k,rfl⟩:=hx.shape
 obtain⟨a',k',rfl⟩:=hy.shape
 simp only[vl_length] at h1
 rw[vl_length,vl_length]
 obtain⟨L,hL⟩:∃ L,L=vl n fun i=>u i - v i:=⟨_,rfl⟩
 have hLn:L.length=n:=by rw[hL,vl_length]
 rw[←hL]
 rw[←hL] at h1
 have HL:=Lib.hid hLn
 clear hx hy hu hv hcap e eg hL hLn
 go_enter Tryz.func38,Tryz.ntmps38
 go_wp2_with fail
 ((with_reducible refine(h1 _ (In.self _)).mono ?_))
 rintro e w2 ⟨⟨d,rfl,hd⟩,hb⟩
 obtain⟨da,dk,rfl⟩:=hd.shape
 rw[HL.out] at hd ⊢
 have HD:=Lib.hid hd
 clear hd h1
 go_wp2_with fail
 exact bodyPost_ret (v:=.tuple #[.slice da n dk,.int .i64 0]) (by simp[results,Tryz.results38,go_sem]) rfl ⟨⟨_,rfl,HD.out⟩,hb⟩
end Gus
end
section
namespace Gus
open Go Go.RowKit Go.Proofs
def TupS (x:Value):Prop:=∃ a l k e,x=.tuple #[.slice a l k,.int .i64 e]
def MvS (y x:Value):Prop:=x=y∧TupS x
def FstS (y x:Value):Prop:=∃ a l k e,y=.tuple #[.slice a l k,.int .i64 e]∧x=.slice a l k
def SndS (y x:Value):Prop:=∃ a l k e,y=.tuple #[.slice a l k,.int .i64 e]∧x=.int .i64 e
def TupV (L:List Rat) (x:Value) (w:World):Prop:=TupS x∧∃ d,x=.tuple #[d,.int .i64 0]∧VecAt w d L
theorem stable_tupv (L:List Rat):Stable (TupV L):=fun _ _ _ ⟨h1,d,h2,h3⟩ hs=>⟨h1,d,h2,h3.call hs⟩
def VcQ (L:List Rat) (x:Value) (w:World):Prop:=VecAt w x L
theorem stable_vcq (L:List Rat):Stable (VcQ L):=fun _ _ _ h hs=>VecAt.call h hs
theorem VcQ.v {L:List Rat} {x:Value} {w:World} (h:VcQ L x w):VecAt w x L:=h
theorem tupv_mk {w w':World} {L:List Rat} {e:Ending} (h:(∃ d,e=.returned (.tuple #[d,.int .i64 0])∧VecAt w' d L)∧Below w.heap.size w w'):(∃ v,e=.returned v∧TupV L v w')∧Below w.heap.size w w':=by
 obtain⟨⟨d,h1,h2⟩,hb⟩:=h
 obtain⟨a,k,h3⟩:=h2.shape
 exact⟨⟨_,h1,⟨_,_,_,_,by rw[h3]⟩,d,rfl,h2⟩,hb⟩
theorem tupv_out {L:List Rat} {w:World} {x y z t:Value} (h3:TupV L x w) (h4:MvS x y) (h5:FstS y z) (h6:SndS y t) :
  ∃ a k,x=.tuple #[.slice a L.length k,.int .i64 0]∧y=.tuple #[.slice a L.length k,.int .i64 0]∧z=.slice a L.length k∧t=.int .i64 0∧VecAt w (.slice a L.length k) L:=by
 obtain⟨_,d,rfl,hd⟩:=h3
 obtain⟨a,k,rfl⟩:=hd.shape
 obtain⟨rfl,_⟩:=h4
 obtain⟨a1,l1,k1,e1,h7,rfl⟩:=h5
 obtain⟨a2,l2,k2,e2,h8,rfl⟩:=h6
 simp only[Value.tuple.injEq] at h7 h8
 have h9:=congrArg Array.toList h7
 have h10:=congrArg Array.toList h8
 simp only[List.cons.injEq,and_true,Value.slice.injEq,Value.int.injEq,true_and] at h9 h10
 obtain⟨⟨rfl,rfl,rfl⟩,rfl⟩:=h9
 obtain⟨_,rfl⟩:=h10
 exact⟨_,_,rfl,rfl,rfl,rfl,hd⟩
def SysV (w:World) (s:Value) (n:Nat) (A:Nat→Nat→Rat) (b:Vc):Prop:=∃ ra rc ba bc,s=.agg #[.int .i64 n,.int .i64 n,.slice ra n rc,.slice ba n bc]∧SpM w (.agg #[.int .i64 n,.int .i64 n,.slice ra n rc]) n n A∧VecAt w (.slice ba n bc) (vl n b)
theorem SysV.call {w w':World} {s:Value} {n:Nat} {A:Nat→Nat→Rat} {b:Vc} (h:SysV w s n A b) (hb:Below w.heap.size w w'):SysV w' s n A b:=by
 obtain⟨ra,rc,ba,bc,h1,h2,h3⟩:=h
 exact⟨ra,rc,ba,bc,h1,h2.call hb,h3.call hb⟩
end Gus
end
section
namespace Gus
open Go Go.RowKit Go.Proofs Go.ChangeShapes Go.WideShapes Go.ChangeAt Go.Deep
abbrev TQ:=Nat×Nat×Int×Int
def TAt (w:World) (a:Option Addr) (l:List TQ):Prop:=∀ k,k<l.length→∃ b off,a=some ⟨b,off,none⟩∧b<w.heap.size∧w.cell? ⟨b,off+k*4,none⟩=some (.int .u8 (l.getD k (0,0,0,0)).1)∧w.cell? ⟨b,off+k*4+1,none⟩=some (.int .u8 (l.getD k (0,0,0,0)).2.1) ∧
 w.cell? ⟨b,off+k*4+2,none⟩=some (.int .i64 (l.getD k (0,0,0,0)).2.2.1)∧w.cell? ⟨b,off+k*4+3,none⟩=some (.int .u32 (l.getD k (0,0,0,0)).2.2.2)
theorem TAt.call {w w':World} {a:Option Addr} {l:List TQ} (h:TAt w a l) (hb:Below w.heap.size w w'):TAt w' a l:=fun k hk=>by
 obtain⟨b,off,h1,h2,c0,c1,c2,c3⟩:=h k hk
 exact⟨b,off,h1,Nat.lt_of_lt_of_le h2 hb.size,by rw[hb.cell (p:=⟨b,off+k*4,none⟩) h2];exact c0,by rw[hb.cell (p:=⟨b,off+k*4+1,none⟩) h2];exact c1,
  by rw[hb.cell (p:=⟨b,off+k*4+2,none⟩) h2];exact c2,by rw[hb.cell (p:=⟨b,off+k*4+3,none⟩) h2];exact c3⟩
section
variable {H:Type} {enc:TypeId×Value→H} {W:World} {base:Nat} {sp:Nat→Bool} {held:Bool}
end
end Gus
end
