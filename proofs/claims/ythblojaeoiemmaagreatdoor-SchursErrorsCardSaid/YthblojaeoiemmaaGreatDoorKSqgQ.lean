/- Proved here: parts of the proof: KSqg KSqh KSqi. Conditions: those that each theorem states. -/
import Derived.Test.YthblojaeoiemmaaGreatDoorKSqdQ
import Derived.Test.YthblojaeoiemmaaGreatDoorKDtaQ
section
namespace Gus
open Go Go.RowKit Go.Proofs
theorem dense_szk2 {r c m:Nat} {F:Mx} (h:Mz r c m F) (hm:0<m) (i:Nat):SzK m ((dense r c F).getD i 0):=by
 by_cases hi:i<r*c
 ·obtain⟨h1,h2,_⟩:=pos_split hi
  have e:(dense r c F).getD i 0=F (i / c) (i % c):=by simp[dense,List.getD_eq_getElem?_getD,hi]
  rw[e];exact h _ _ h1 h2
 ·rw[List.getD_eq_getElem?_getD,List.getElem?_eq_none (by rw[dense_length];omega)]
  exact SzK.zero.mono hm
theorem mappL_mv (r c:Nat) (F:Mx) (v:Vc):mappL r c (dense r c F) (vl c v)=vl r (mv c F v):=by
 unfold mappL
 refine List.map_congr_left fun i hi=>?_
 have hi:=List.mem_range.1 hi
 show dotV (rowV c (dense r c F) i) (vl c v) c=sm (fun k=>F i k*v k) c
 unfold dotV
 rw[sumTo_sm]
 refine sm_congr c fun k hk=>?_
 rw[vl_getD v hk]
 congr 1
 have:=mvals_dense F hi hk
 unfold rowV
 rw[←this]
 simp[hk]
theorem mapp_mv {j l:Nat} (w:World) (x y:Value) (r c:Nat) (F:Mx) (v:Vc) (hx:MatS w x r c F) (hy:VecAt w y (vl c v)) (hr:r≤2048) (hc:c≤2048) (hF:Mz r c j F) (hv:Vz c l v) (hj:0<j) (hl:0<l) (hcap:1+c*(j+l+1)<17592186044416) :
  Calls Tryz.prog 37 #[x,y] w fun e w'=>(∃ d,e=.returned (.tuple #[d,.int .i64 0])∧VecAt w' d (vl r (mv c F v)))∧Below w.heap.size w w':=
 (mapp_any w x y r c c (dense r c F) (vl c v) hx.mat hx.cap hy (vl_length _ _) hr hc hc (dense_szk2 hF hj) (vl_szk hv hl) hcap).mono fun _ _ ⟨⟨d,e',h1,h2⟩,hb⟩=>by
  rcases h2 with ⟨h3,_⟩|⟨_,rfl,h4⟩
  ·exact absurd h3 (by simp)
  ·exact⟨⟨d,h1,by rw[←mappL_mv];exact h4⟩,hb⟩
def MaQ (r c:Nat) (F:Mx) (d:Value) (e:Int) (w:World):Prop:=e=0∧MatAt w d r c (dense r c F)
theorem stable_maq (r c:Nat) (F:Mx):Stable (TupR (MaQ r c F)):=stable_tup fun _ _ _ _ h hs=>⟨h.1,h.2.call hs⟩
theorem dense_congr {r c:Nat} {F G:Mx} (he:∀ i k,i<r→k<c→F i k=G i k):dense r c F=dense r c G:=List.map_congr_left fun p hp=>by
 obtain⟨a1,a2,_⟩:=pos_split (List.mem_range.1 hp)
 exact he _ _ a1 a2
theorem mmul_tup {j l:Nat} (w:World) (x y:Value) (r c c':Nat) (A B:Mx) (hx:MatAt w x r c (dense r c A)) (hy:MatAt w y c c' (dense c c' B)) (hr:r≤2048) (hc:c≤2048) (hc':c'≤2048) (hA:Mz r c j A) (hB:Mz c c' l B) (hj:0<j) (hl:0<l) (hcap:1+c*(j+l+1)<17592186044416) :
  Calls Tryz.prog 82 #[x,y] w fun e w'=>(∃ d,e=.returned d∧TupR (MaQ r c' (mulM c A B)) d w')∧Below w.heap.size w w':=
 (mmul_any w x y r c c c' (dense r c A) (dense c c' B) hx hy hr hc hc hc' (dense_szk2 hA hj) (dense_szk2 hB hl) hcap).mono fun _ _ ⟨⟨d,e',h1,h2⟩,hb⟩=>by
  obtain⟨⟨n,m,a,l,k,h0⟩,h2⟩:=h2
  rcases h2 with ⟨h3,_⟩|⟨_,rfl,h4⟩
  ·exact absurd h3 (by simp)
  ·refine⟨⟨_,h1,⟨_,_,_,_,_,_,by rw[h0]⟩,_,_,rfl,rfl, ?_⟩,hb⟩
   rw[dense_congr (G:=mulF c (mvals c (dense r c A)) (mvals c' (dense c c' B))) fun i k hi hk=>?_]
   ·exact h4
   ·unfold mulM mulF
    rw[sumTo_sm]
    exact sm_congr c fun t ht=>by rw[mvals_dense A hi ht,mvals_dense B ht hk]
theorem out_zl {n:Nat} {l:List Nat} (h:∀ i∈l,i<n):(zl l).any (outI n)=false:=by
 rw[List.any_eq_false]
 intro x hx
 obtain⟨i,hi,rfl⟩:=List.mem_map.1 hx
 have:=h i hi
 unfold outI
 simp;omega
theorem mpart_tup (w:World) (v:Value) (n:Nat) (M:Mx) (hM:MatS w v n n M) (hn:n≤2048) (x y:Value) (rows cols:List Nat) (hx:GrpAt w x rows) (hy:GrpAt w y cols) (hr:∀ i∈rows,i<n) (hc:∀ i∈cols,i<n) (hlr:rows.length≤2048) (hlc:cols.length≤2048) :
  Calls Tryz.prog 70 #[v,x,y] w fun e w'=>(∃ d,e=.returned d∧TupR (MsQ rows.length cols.length (sub M rows cols)) d w')∧Below w.heap.size w w':=by
 obtain⟨a,ca,rfl,ha⟩:=hx
 obtain⟨b,cb,rfl,hb⟩:=hy
 have:=mpart_any w v n n _ hM.mat hn hn a b ca cb (zl rows) (zl cols) ha hb (by rw[zl_length];exact hlr) (by rw[zl_length];exact hlc)
 rw[zl_length,zl_length] at this
 refine this.mono ?_
 rintro e w' ⟨h1,hb⟩
 rcases h1 with ⟨h2,_⟩|⟨_,d,rfl,h3⟩
 ·rw[out_zl hr,out_zl hc] at h2
  exact absurd h2 (by simp)
 ·refine⟨⟨_,rfl,MatS.tup ?_⟩,hb⟩
  rw[zl_length,zl_length] at h3
  exact h3.congr fun i k hi hk=>by
   unfold partF
   rw[zl_getD hi,zl_getD hk,Int.toNat_natCast,Int.toNat_natCast,mvals_dense M (hr _ (getD_in hi)) (hc _ (getD_in hk))]
   rfl
set_option maxRecDepth 100000 in
set_option maxHeartbeats 4000000 in
theorem sless_any {i j l:Nat} (w:World) (x m y:Value) (r c:Nat) (a v:Vc) (F:Mx) (hx:VecAt w x (vl r a)) (hm:MatS w m r c F) (hy:VecAt w y (vl c v)) (hr:r≤64) (hc:c≤64) (ha:Vz r i a) (hF:Mz r c j F) (hv:Vz c l v) (hi:0<i) (hj:0<j) (hl:0<l) (hcap:i+(1+c*(j+l+1))+1<17592186044416) :
  Calls Tryz.prog 102 #[x,m,y] w fun e w'=>(∃ d,e=.returned d∧VecAt w' d (vl r fun t=>a t - mv c F v t))∧Below w.heap.size w w':=by
 have c1:=fun W (h:Below w.heap.size w W)=>mapp_mv W m y r c F v (hm.call h) (hy.call h) (by omega) (by omega) hF hv hj hl (by omega)
 have c2:=fun W d (h:Below w.heap.size w W) (hd:VecAt W d (vl r (mv c F v)))=>vsub_vl W x d a (mv c F v) (hx.call h) hd hr ha (mv_szk hj hF hv) (by omega)
 obtain⟨xa,xc,rfl⟩:=hx.shape
 obtain⟨ma,mn,mc,-,rfl⟩:=hm.shape
 obtain⟨ya,yc,rfl⟩:=hy.shape
 simp only[vl_length] at c1 c2 ⊢
 have hin:=In.self w
 clear hx hm hy ha hF hv hcap
 go_enter Tryz.func102,Tryz.ntmps102
 go_upto_region 1 with fail
 ((obtain⟨B,hB⟩:∃ z,z=w.heap.size:=⟨_,rfl⟩);(have bB:=Bx.new_at w #[.int .i64 r,.int .i64 c,.slice ma mn mc] 37 hB);(replace hin:=hin.alloc (.cells #[.int .i64 r,.int .i64 c,.slice ma mn mc] 37));(rw[←hB]);clear hB;(generalize w.alloc (.cells #[.int .i64 r,.int .i64 c,.slice ma mn mc] 37)=W1 at *))
 (have x0:=bB.c0;have x1:=bB.c1;have x2:=bB.c2;have xl:=bB.lt)
 (go_wp2_with fail;(((with_reducible refine(c1 _ hin.bel).mono ?_)));(rintro e wc2 ⟨⟨d,rfl,hd⟩,hb⟩);clear x0 x1 x2 xl c1;replace hin:=hin.call hb;replace bB:=bB.call hb;clear hb)
 obtain⟨da,dc,hde⟩:=hd.shape
 rw[vl_length] at hde
 subst hde
 (go_wp2_with fail;(((with_reducible refine(c2 _ _ hin.bel hd).mono ?_)));(rintro e wc3 ⟨⟨d,rfl,hd2⟩,hb⟩);clear c2 hd;replace hin:=hin.call hb;replace bB:=bB.call hb;clear hb)
 obtain⟨da,dc,hde⟩:=hd2.shape
 rw[vl_length] at hde
 subst hde
 go_wp2_with fail
 go_ret
 exact⟨⟨_,rfl,hd2⟩,hin.bel⟩
end Gus
end
section
namespace Gus
open Go Go.RowKit Go.Proofs
def prodM (M:Mx) (ii oo:List Nat) (N:Mx):Mx:=mulM ii.length (mulM ii.length (sub M oo ii) N) (sub M ii oo)
theorem schur_prod (M:Mx) (ii oo:List Nat) (N:Mx) (i k:Nat):schur M ii oo N i k=sub M oo oo i k - prodM M ii oo N i k:=rfl
structure SplB (w:World) (p A O:Nat) (a0:Option Addr) (c0:Nat) (a1:Option Addr) (c1:Nat) (g00 n00 g01 n01 g10 n10 g11 n11 gi ni:Nat) (xp:Option Addr) (np kp:Nat):Prop where
 box:Bx w p 169 [.slice a0 A c0,.slice a1 O c1,.int .i64 A,.int .i64 A,.slice (some ⟨g00,0,none⟩) n00 n00,.int .i64 A,.int .i64 O,.slice (some ⟨g01,0,none⟩) n01 n01,.int .i64 O,.int .i64 A,.slice (some ⟨g10,0,none⟩) n10 n10,.int .i64 O,.int .i64 O,.slice (some ⟨g11,0,none⟩) n11 n11,.int .i64 A,.int .i64 A,.slice (some ⟨gi,0,none⟩) ni ni,.int .i64 O,.int .i64 O,.slice xp np kp]
theorem SplB.call {w w':World} {p A O:Nat} {a0:Option Addr} {c0:Nat} {a1:Option Addr} {c1 g00 n00 g01 n01 g10 n10 g11 n11 gi ni:Nat} {xp:Option Addr} {np kp:Nat} (h:SplB w p A O a0 c0 a1 c1 g00 n00 g01 n01 g10 n10 g11 n11 gi ni xp np kp) (hb:Below w.heap.size w w'):SplB w' p A O a0 c0 a1 c1 g00 n00 g01 n01 g10 n10 g11 n11 gi ni xp np kp:=⟨h.box.call hb⟩
def SplitAt (w:World) (v:Value) (ii oo:List Nat) (M N:Mx):Prop:=
 ∃ p a0 c0 a1 c1 g00 n00 g01 n01 g10 n10 g11 n11 gi ni xp np kp,v=.pointer (some ⟨p,0,none⟩)∧SplB w p ii.length oo.length a0 c0 a1 c1 g00 n00 g01 n01 g10 n10 g11 n11 gi ni xp np kp∧IntsAt w a0 (zl ii)∧IntsAt w a1 (zl oo) ∧
  MatS w (.agg #[.int .i64 ii.length,.int .i64 oo.length,.slice (some ⟨g01,0,none⟩) n01 n01]) ii.length oo.length (sub M ii oo) ∧
  MatS w (.agg #[.int .i64 oo.length,.int .i64 ii.length,.slice (some ⟨g10,0,none⟩) n10 n10]) oo.length ii.length (sub M oo ii) ∧
  MatS w (.agg #[.int .i64 oo.length,.int .i64 oo.length,.slice (some ⟨g11,0,none⟩) n11 n11]) oo.length oo.length (sub M oo oo) ∧
  MatS w (.agg #[.int .i64 ii.length,.int .i64 ii.length,.slice (some ⟨gi,0,none⟩) ni ni]) ii.length ii.length N ∧
  MatAt w (.agg #[.int .i64 oo.length,.int .i64 oo.length,.slice xp np kp]) oo.length oo.length (dense oo.length oo.length (prodM M ii oo N))
theorem SplitAt.call {w w':World} {v:Value} {ii oo:List Nat} {M N:Mx} (h:SplitAt w v ii oo M N) (hb:Below w.heap.size w w'):SplitAt w' v ii oo M N:=by
 obtain⟨p,a0,c0,a1,c1,g00,n00,g01,n01,g10,n10,g11,n11,gi,ni,xp,np,kp,rfl,h1,h2,h3,h4,h5,h6,h7,h8⟩:=h
 exact⟨p,a0,c0,a1,c1,g00,n00,g01,n01,g10,n10,g11,n11,gi,ni,xp,np,kp,rfl,⟨h1.box.call hb⟩,h2.call hb,h3.call hb,h4.call hb,h5.call hb,h6.call hb,h7.call hb,h8.call hb⟩
theorem MatS.setTy {w:World} {S j r c:Nat} {v x:Value} {F:Mx} {T:TypeId} {cs:List Value} (h:MatS w v r c F) (hS:Bx w S T cs) (hT:T≠72):MatS (w.setCell ⟨S,j,none⟩ x) v r c F:=by
 obtain⟨g,n,h1,h2,h3⟩:=h
 refine⟨g,n,h1,h2,Bx.other h3 (fun e=>?_) x⟩
 exact hS.ne_type h3 hT e
def AtP (V:World) (O g n:Nat) (xp:Option Addr) (np kp:Nat) (v7 v8:Value) (w:World):Prop:=∃ E F,v7=.pointer (some ⟨E,0,none⟩)∧v8=.pointer (some ⟨F,0,none⟩)∧Bx w E 37 [.int .i64 O,.int .i64 O,.slice (some ⟨g,0,none⟩) n n]∧Bx w F 37 [.int .i64 O,.int .i64 O,.slice xp np kp]∧In V.heap.size V w
set_option maxRecDepth 100000 in
set_option maxHeartbeats 4000000 in
theorem splat_any {j l:Nat} (W:World) (v:Value) (ii oo:List Nat) (M N:Mx) (hS:SplitAt W v ii oo M N) (i k:Nat) (hi:i<oo.length) (hk:k<oo.length) (ho:oo.length≤2048) (h1:SzK j (sub M oo oo i k)) (h2:SzK l (prodM M ii oo N i k)) (hcap:j+l+1<17592186044416) :
  Calls Tryz.prog 101 #[v,.int .i64 (i:Nat),.int .i64 (k:Nat)] W fun e w'=>e=.returned (fracV (schur M ii oo N i k))∧Below W.heap.size W w':=by
 have c1:=fsub_any _ _ h1 h2 hcap
 rw[schur_prod]
 obtain⟨p,a0,c0,a1,cc1,g00,n00,g01,n01,g10,n10,g11,n11,gi,ni,xp,np,kp,rfl,hB,_,_,_,_,hM,_,hP⟩:=hS
 obtain⟨O,hO⟩:∃ O,O=oo.length:=⟨_,rfl⟩
 rw[←hO] at hi hk ho hM hP hB
 obtain⟨t,ht⟩:∃ t,t=i*O+k:=⟨_,rfl⟩
 obtain⟨d,hd⟩:∃ d,d=i*O:=⟨_,rfl⟩
 have hn4:O*O≤4194304:=Nat.mul_le_mul ho ho
 have htl:t<O*O:=by rw[ht];exact pos_lt hi hk
 obtain⟨xm,exm,hl1,hv1⟩:=hM.mat
 obtain⟨xp2,exp,hl2,hv2⟩:=hP
 obtain⟨b,off,cap,A1,A2,A3,A4,A5,rfl,hb,_,hA,d0,d1,d2,d3,d4⟩:=hv1.at (i:=t) (by rw[hl1];exact htl)
 obtain⟨b2,off2,cap2,B1,B2,B3,B4,B5,rfl,hb2,_,hB9,y0,y1,y2,y3,y4⟩:=hv2.at (i:=t) (by rw[hl2];exact htl)
 rw[hl1] at exm
 rw[hl2] at exp
 rw[ht,dense_getD _ hi hk] at hA hB9
 obtain⟨z,hz⟩:∃ z,z=sub M oo oo i k - prodM M ii oo N i k:=⟨_,rfl⟩
 rw[←hz,hA,hB9] at c1
 rw[←hz]
 obtain⟨ex1,ex2⟩:(some ⟨g11,0,none⟩:Option Addr)=some ⟨b,off,none⟩∧n11=O*O:=by
  have h9:=congrArg (fun v=>match v with | Value.agg a=>a.toList | _=>[]) exm
  simp only[List.cons.injEq,Value.slice.injEq,true_and,and_true] at h9
  exact⟨h9.1,h9.2.1⟩
 obtain⟨ey1,ey2⟩:xp=some ⟨b2,off2,none⟩∧np=O*O:=by
  have h9:=congrArg (fun v=>match v with | Value.agg a=>a.toList | _=>[]) exp
  simp only[List.cons.injEq,Value.slice.injEq,true_and,and_true] at h9
  exact⟨h9.1,h9.2.1⟩
 injection ex1 with ex1
 injection ex1 with ex1 ex3
 subst ex1 ey1
 rw[←ex3] at d0 d1 d2 d3 d4
 simp only[Nat.zero_add] at d0 d1 d2 d3 d4
 have hw1:IntKind.i64.wrap ((i:Int)*O)=(d:Int):=by rw[hd,←Int.natCast_mul];exact IntWalk.i64_in _ (by omega)
 have hw2:IntKind.i64.wrap ((d:Int)+k)=(t:Int):=by rw[ht,hd,←Int.natCast_add];exact IntWalk.i64_in _ (by omega)
 have htn:(t:Int)<n11:=by omega
 have htn2:(t:Int)<np:=by omega
 have ht0:(0:Int)≤t:=by omega
 have p11:W.cell? ⟨p,11,none⟩=some (.int .i64 O):=hB.box.cell 11
 have p12:W.cell? ⟨p,12,none⟩=some (.int .i64 O):=hB.box.cell 12
 have p13:W.cell? ⟨p,13,none⟩=some (.slice (some ⟨g11,0,none⟩) n11 n11):=hB.box.cell 13
 have p17:W.cell? ⟨p,17,none⟩=some (.int .i64 O):=hB.box.cell 17
 have p18:W.cell? ⟨p,18,none⟩=some (.int .i64 O):=hB.box.cell 18
 have p19:W.cell? ⟨p,19,none⟩=some (.slice (some ⟨b2,off2,none⟩) np kp):=hB.box.cell 19
 have pl:=hB.box.lt
 have hin:=In.self W
 obtain⟨Z1,Z2,Z3,Z4,Z5,hZ,hZ'⟩:∃ A1 A2 A3 A4 A5,fracV z=.agg #[.int .u64 A1,.string A2,.bool A3,.int .u64 A4,.string A5]∧fcs z=[.int .u64 A1,.string A2,.bool A3,.int .u64 A4,.string A5]:=⟨_,_,_,_,_,rfl,rfl⟩
 rw[hZ] at c1 ⊢
 clear hZ hZ' hz hA hB9 exm exp hl1 hl2 hv1 hv2 hB hM ht hd htl hn4 h1 h2 hcap ex2 ey2 ex3 hO
 go_enter Tryz.func101,Tryz.ntmps101
 go_upto_region 1 with fail
 ((obtain⟨X,hXX⟩:∃ z,z=W.heap.size:=⟨_,rfl⟩);(have bV0:=(Bx.new_at W #[.int .u64 0,.string ⟨#[]⟩,.bool false,.int .u64 0,.string ⟨#[]⟩] 72 (n:=X) (by simp[hXX])));(have hV:=((In.self W).alloc (.cells #[.int .u64 0,.string ⟨#[]⟩,.bool false,.int .u64 0,.string ⟨#[]⟩] 72)));(rw[←hXX] at hV ⊢);(have HX:=Lib.hid hXX);clear hXX;(generalize W.alloc (.cells #[.int .u64 0,.string ⟨#[]⟩,.bool false,.int .u64 0,.string ⟨#[]⟩] 72)=V at *))
 have hV0:=hV
 rw[HX.out] at hV0
 have hcc:=hV0.cell
 rw[←hcc _ _ hb] at d0 d1 d2 d3 d4
 rw[←hcc _ _ hb2] at y0 y1 y2 y3 y4
 rw[←hcc _ _ pl] at p11 p12 p13 p17 p18 p19
 have hsz:=hV0.siz
 replace hb:=Nat.lt_of_lt_of_le hb hsz
 replace hb2:=Nat.lt_of_lt_of_le hb2 hsz
 replace pl:=Nat.lt_of_lt_of_le pl hsz
 clear hcc hsz hV0 hin
 go_cut [7,8] from 7 to 18 (fun v7 v8 wx=>AtP V O g11 n11 (some ⟨b2,off2,none⟩) np kp v7 v8 wx)
 case first=>
  refine wp_region_mixT (In V.heap.size V) 13 (.quiet 0 (.quiet 1 (.quiet 2 (.quiet 3 (.quiet 4 (.quiet 5 (.quiet 6 (.quiet 7 (.quiet 8 (.quiet 9 (.two 10 11 (.one 11 (.one 12 (.one 13 .done))) (.one 10 (.one 12 (.one 13 .done)))))))))))))) (by kernel_rfl) (by kernel_rfl) (by kernel_rfl) (by kernel_rfl) (by kernel_rfl) (by kernel_rfl) (by kernel_rfl) (by kernel_rfl) (fun _ _ d _ _ h=>by cases d <;> exact h) ?_ ?_
  ·exact(In.self V).drew
  (repeat (apply mixT_take;(focus rfl);(focus rfl);(focus (intro w' hw';have hc':=hw'.cell;go_simp;exact rfl));refine tput ?_))
  have hin:=(In.self V).drew
  clear d0 d1 d2 d3 d4 y0 y1 y2 y3 y4
  generalize V.drew=V4 at *
  (apply mixT_both;(focus rfl);(focus rfl);(focus rfl);(focus rfl))
  ·intro K hK
   go_simp
   refine hK _ _ (fun _=>hin.alloc _) ?_
   clear hK K
   obtain⟨E,hE⟩:∃ z,z=V4.heap.size:=⟨_,rfl⟩
   have bE:=Bx.new_at V4 #[.int .i64 0,.int .i64 0,.slice none 0 0] 37 hE
   have hloE:V.heap.size≤E:=by rw[hE];exact hin.siz
   replace hin:=hin.alloc (.cells #[.int .i64 0,.int .i64 0,.slice none 0 0] 37)
   rw[←hE]
   clear hE
   generalize V4.alloc (.cells #[.int .i64 0,.int .i64 0,.slice none 0 0] 37)=W5 at *
   (apply mixT_run;(focus rfl);(focus rfl);intro K hK;go_simp)
   refine hK _ _ (fun _=>hin.alloc _) ?_
   clear hK K
   obtain⟨F,hF⟩:∃ z,z=W5.heap.size:=⟨_,rfl⟩
   have bF:=Bx.new_at W5 #[.int .i64 0,.int .i64 0,.slice none 0 0] 37 hF
   have hloF:V.heap.size≤F:=by rw[hF];exact hin.siz
   have hne:¬ E=F:=by have:=bE.lt;omega
   have hne2:¬ F=E:=fun e=>hne e.symm
   replace bE:=bE.alloc (.cells #[.int .i64 0,.int .i64 0,.slice none 0 0] 37)
   replace hin:=hin.alloc (.cells #[.int .i64 0,.int .i64 0,.slice none 0 0] 37)
   rw[←hF]
   clear hF
   generalize W5.alloc (.cells #[.int .i64 0,.int .i64 0,.slice none 0 0] 37)=W6 at *
   have c0:=bE.c0;have c1:=bE.c1;have c2:=bE.c2;have cl:=bE.lt
   have f0:=bE.frozen 0;have f1:=bE.frozen 1;have f2:=bE.frozen 2
   have K1:=Lib.hid (((bE.set 0 (.int .i64 (O:Nat))).set 1 (.int .i64 (O:Nat))).set 2 (.slice (some ⟨g11,0,none⟩) n11 n11))
   have K2:=Lib.hid (Bx.other (a:=⟨E,2,none⟩) (Bx.other (a:=⟨E,1,none⟩) (Bx.other (a:=⟨E,0,none⟩) bF hne (.int .i64 (O:Nat))) hne (.int .i64 (O:Nat))) hne (.slice (some ⟨g11,0,none⟩) n11 n11))
   have K3:=Lib.hid (((hin.setCell (p:=⟨E,0,none⟩) hloE (.int .i64 (O:Nat))).setCell (p:=⟨E,1,none⟩) hloE (.int .i64 (O:Nat))).setCell (p:=⟨E,2,none⟩) hloE (.slice (some ⟨g11,0,none⟩) n11 n11))
   clear bE bF hin
   (apply mixT_run;(focus rfl);(focus rfl);intro K hK;go_simp)
   refine hK _ _ (fun _=>K3.out) ?_
   clear hK K c0 c1 c2 cl f0 f1 f2
   have bE:=K1.out
   have bF:=K2.out
   have hin:=K3.out
   simp only[List.set] at bE
   clear K1 K2 K3
   generalize ((W6.setCell ⟨E,0,none⟩ (.int .i64 (O:Nat))).setCell ⟨E,1,none⟩ (.int .i64 (O:Nat))).setCell ⟨E,2,none⟩ (.slice (some ⟨g11,0,none⟩) n11 n11)=W7 at *
   have c0:=bF.c0;have c1:=bF.c1;have c2:=bF.c2;have cl:=bF.lt
   have f0:=bF.frozen 0;have f1:=bF.frozen 1;have f2:=bF.frozen 2
   have K1:=Lib.hid (((bF.set 0 (.int .i64 (O:Nat))).set 1 (.int .i64 (O:Nat))).set 2 (.slice (some ⟨b2,off2,none⟩) np kp))
   have K2:=Lib.hid (Bx.other (a:=⟨F,2,none⟩) (Bx.other (a:=⟨F,1,none⟩) (Bx.other (a:=⟨F,0,none⟩) bE hne2 (.int .i64 (O:Nat))) hne2 (.int .i64 (O:Nat))) hne2 (.slice (some ⟨b2,off2,none⟩) np kp))
   have K3:=Lib.hid (((hin.setCell (p:=⟨F,0,none⟩) hloF (.int .i64 (O:Nat))).setCell (p:=⟨F,1,none⟩) hloF (.int .i64 (O:Nat))).setCell (p:=⟨F,2,none⟩) hloF (.slice (some ⟨b2,off2,none⟩) np kp))
   clear bE bF hin
   (apply mixT_run;(focus rfl);(focus rfl);intro K hK;go_simp)
   refine hK _ _ (fun h=>absurd h (by decide)) ?_
   clear hK K c0 c1 c2 cl f0 f1 f2
   have bF:=K1.out
   have bE:=K2.out
   have hin:=K3.out
   simp only[List.set] at bF
   clear K1 K2 K3
   generalize ((W7.setCell ⟨F,0,none⟩ (.int .i64 (O:Nat))).setCell ⟨F,1,none⟩ (.int .i64 (O:Nat))).setCell ⟨F,2,none⟩ (.slice (some ⟨b2,off2,none⟩) np kp)=W8 at *
   refine mixT_done ?_
   go_wp2_with fail
   go_meet
   exact⟨E,F,rfl,rfl,bE,bF,hin⟩
  ·intro K hK
   go_simp
   refine hK _ _ (fun _=>hin.alloc _) ?_
   clear hK K
   obtain⟨F,hF⟩:∃ z,z=V4.heap.size:=⟨_,rfl⟩
   have bF:=Bx.new_at V4 #[.int .i64 0,.int .i64 0,.slice none 0 0] 37 hF
   have hloF:V.heap.size≤F:=by rw[hF];exact hin.siz
   replace hin:=hin.alloc (.cells #[.int .i64 0,.int .i64 0,.slice none 0 0] 37)
   rw[←hF]
   clear hF
   generalize V4.alloc (.cells #[.int .i64 0,.int .i64 0,.slice none 0 0] 37)=W5 at *
   (apply mixT_run;(focus rfl);(focus rfl);intro K hK;go_simp)
   refine hK _ _ (fun _=>hin.alloc _) ?_
   clear hK K
   obtain⟨E,hE⟩:∃ z,z=W5.heap.size:=⟨_,rfl⟩
   have bE:=Bx.new_at W5 #[.int .i64 0,.int .i64 0,.slice none 0 0] 37 hE
   have hloE:V.heap.size≤E:=by rw[hE];exact hin.siz
   have hne:¬ E=F:=by have:=bF.lt;omega
   have hne2:¬ F=E:=fun e=>hne e.symm
   replace bF:=bF.alloc (.cells #[.int .i64 0,.int .i64 0,.slice none 0 0] 37)
   replace hin:=hin.alloc (.cells #[.int .i64 0,.int .i64 0,.slice none 0 0] 37)
   rw[←hE]
   clear hE
   generalize W5.alloc (.cells #[.int .i64 0,.int .i64 0,.slice none 0 0] 37)=W6 at *
   have c0:=bE.c0;have c1:=bE.c1;have c2:=bE.c2;have cl:=bE.lt
   have f0:=bE.frozen 0;have f1:=bE.frozen 1;have f2:=bE.frozen 2
   have K1:=Lib.hid (((bE.set 0 (.int .i64 (O:Nat))).set 1 (.int .i64 (O:Nat))).set 2 (.slice (some ⟨g11,0,none⟩) n11 n11))
   have K2:=Lib.hid (Bx.other (a:=⟨E,2,none⟩) (Bx.other (a:=⟨E,1,none⟩) (Bx.other (a:=⟨E,0,none⟩) bF hne (.int .i64 (O:Nat))) hne (.int .i64 (O:Nat))) hne (.slice (some ⟨g11,0,none⟩) n11 n11))
   have K3:=Lib.hid (((hin.setCell (p:=⟨E,0,none⟩) hloE (.int .i64 (O:Nat))).setCell (p:=⟨E,1,none⟩) hloE (.int .i64 (O:Nat))).setCell (p:=⟨E,2,none⟩) hloE (.slice (some ⟨g11,0,none⟩) n11 n11))
   clear bE bF hin
   (apply mixT_run;(focus rfl);(focus rfl);intro K hK;go_simp)
   refine hK _ _ (fun _=>K3.out) ?_
   clear hK K c0 c1 c2 cl f0 f1 f2
   have bE:=K1.out
   have bF:=K2.out
   have hin:=K3.out
   simp only[List.set] at bE
   clear K1 K2 K3
   generalize ((W6.setCell ⟨E,0,none⟩ (.int .i64 (O:Nat))).setCell ⟨E,1,none⟩ (.int .i64 (O:Nat))).setCell ⟨E,2,none⟩ (.slice (some ⟨g11,0,none⟩) n11 n11)=W7 at *
   have c0:=bF.c0;have c1:=bF.c1;have c2:=bF.c2;have cl:=bF.lt
   have f0:=bF.frozen 0;have f1:=bF.frozen 1;have f2:=bF.frozen 2
   have K1:=Lib.hid (((bF.set 0 (.int .i64 (O:Nat))).set 1 (.int .i64 (O:Nat))).set 2 (.slice (some ⟨b2,off2,none⟩) np kp))
   have K2:=Lib.hid (Bx.other (a:=⟨F,2,none⟩) (Bx.other (a:=⟨F,1,none⟩) (Bx.other (a:=⟨F,0,none⟩) bE hne2 (.int .i64 (O:Nat))) hne2 (.int .i64 (O:Nat))) hne2 (.slice (some ⟨b2,off2,none⟩) np kp))
   have K3:=Lib.hid (((hin.setCell (p:=⟨F,0,none⟩) hloF (.int .i64 (O:Nat))).setCell (p:=⟨F,1,none⟩) hloF (.int .i64 (O:Nat))).setCell (p:=⟨F,2,none⟩) hloF (.slice (some ⟨b2,off2,none⟩) np kp))
   clear bE bF hin
   (apply mixT_run;(focus rfl);(focus rfl);intro K hK;go_simp)
   refine hK _ _ (fun h=>absurd h (by decide)) ?_
   clear hK K c0 c1 c2 cl f0 f1 f2
   have bF:=K1.out
   have bE:=K2.out
   have hin:=K3.out
   simp only[List.set] at bF
   clear K1 K2 K3
   generalize ((W7.setCell ⟨F,0,none⟩ (.int .i64 (O:Nat))).setCell ⟨F,1,none⟩ (.int .i64 (O:Nat))).setCell ⟨F,2,none⟩ (.slice (some ⟨b2,off2,none⟩) np kp)=W8 at *
   refine mixT_done ?_
   go_wp2_with fail
   go_meet
   exact⟨E,F,rfl,rfl,bE,bF,hin⟩
 case rest=>
  obtain⟨E,F,rfl,rfl,bE,bF,hin⟩:=hcut
  rename World=>V5
  replace bV0:=bV0.call hin.bel
  replace hV:=hV.call hin.bel
  have hcc:=hin.cell
  rw[←hcc _ _ hb] at d0 d1 d2 d3 d4
  rw[←hcc _ _ hb2] at y0 y1 y2 y3 y4
  replace hb:=Nat.lt_of_lt_of_le hb hin.siz
  replace hb2:=Nat.lt_of_lt_of_le hb2 hin.siz
  clear hcc p11 p12 p13 p17 p18 p19 pl
  (have e0:=bE.c0;have e1:=bE.c1;have e2:=bE.c2;have el:=bE.lt)
  (have f0:=bF.c0;have f1:=bF.c1;have f2:=bF.c2;have fl:=bF.lt)
  go_upto_region 2 with fail
  have h:=In.self V5;have hc:=h.cell;have hf:=h.frozen;refine tfw 21 ?_;refine tset ?_;(repeat (first | refine tfs ?_ |((first |((with_reducible refine flow_pure0 (v:=?_) ?_ ?_ ?_ ?_);rotate_left 1;exact trr;exact trf)|((with_reducible refine flow_pureg (v:=?_) (j:=?_) (b:=?_) ?_ ?_ ?_ ?_);rotate_left 3;exact trr;(focus (intro u w1 hw hd;replace hd:=thn hd;simp[yielded,hd];done))));(focus (intro u w1 hw hd;replace hd:=thn hd;have hc':=hw.cell;go_simp;go_at_call 88;((with_reducible refine(c1 _).mono ?_));rintro e w'' ⟨rfl,hb⟩;refine⟨?_,hb⟩;exact rfl)))| fail))
  (try clear hc hf h);intro u w' h ha hdi;replace h:=tsz h.ins;replace ha:=tah ha;have hc:=h.cell;have hf:=h.frozen
  (try obtain ha:=ha);(try dsimp only);simp only[ha];clear ha hdi
  have hin:=hV.call h.bel
  have bq:=bV0.call h.bel
  clear hc hf h hV bV0 bE bF e0 e1 e2 el f0 f1 f2 fl d0 d1 d2 d3 d4 y0 y1 y2 y3 y4 hb hb2 c1
  (have q0:=bq.c0;have q1:=bq.c1;have q2:=bq.c2;have q3:=bq.c3;have q4:=bq.c4;(have f0:=bq.frozen 0);(have f1:=bq.frozen 1);(have f2:=bq.frozen 2);(have f3:=bq.frozen 3);(have f4:=bq.frozen 4);have ql:=bq.lt;(have K1:=Lib.hid ((((((bq.set 0 (.int .u64 Z1)).set 1 (.string Z2)).set 2 (.bool Z3)).set 3 (.int .u64 Z4)).set 4 (.string Z5))));(have K2:=Lib.hid ((((((hin.setCell (p:=⟨X,0,none⟩) (by first |(simp;done)|(have:=HX.out;simp;omega)) (.int .u64 Z1)).setCell (p:=⟨X,1,none⟩) (by first |(simp;done)|(have:=HX.out;simp;omega)) (.string Z2)).setCell (p:=⟨X,2,none⟩) (by first |(simp;done)|(have:=HX.out;simp;omega)) (.bool Z3)).setCell (p:=⟨X,3,none⟩) (by first |(simp;done)|(have:=HX.out;simp;omega)) (.int .u64 Z4)).setCell (p:=⟨X,4,none⟩) (by first |(simp;done)|(have:=HX.out;simp;omega)) (.string Z5))));clear bq hin;go_wp2_with fail;have k1:=K1.out;have k2:=K2.out;clear q0 q1 q2 q3 q4 f0 f1 f2 f3 f4 ql K1 K2;(generalize ((((w'.setCell ⟨X,0,none⟩ (.int .u64 Z1)).setCell ⟨X,1,none⟩ (.string Z2)).setCell ⟨X,2,none⟩ (.bool Z3)).setCell ⟨X,3,none⟩ (.int .u64 Z4)).setCell ⟨X,4,none⟩ (.string Z5)=W5 at *);(have e0:W5.cell? ⟨X,0,none⟩=some (.int .u64 Z1):=k1.cell 0);(have e1:W5.cell? ⟨X,1,none⟩=some (.string Z2):=k1.cell 1);(have e2:W5.cell? ⟨X,2,none⟩=some (.bool Z3):=k1.cell 2);(have e3:W5.cell? ⟨X,3,none⟩=some (.int .u64 Z4):=k1.cell 3);(have e4:W5.cell? ⟨X,4,none⟩=some (.string Z5):=k1.cell 4);have hz:=k2.bel;(refine bodyPost_ret (v:=.agg #[.int .u64 Z1,.string Z2,.bool Z3,.int .u64 Z4,.string Z5]) ?_ rfl ⟨rfl,by rw[←HX.out];exact hz⟩);(simp[results,Tryz.results101,go_sem,e0,e1,e2,e3,e4]))
end Gus
end
section
namespace Gus
open Go Go.RowKit Go.Proofs
set_option maxRecDepth 100000 in
set_option maxHeartbeats 2000000 in
theorem einv1_any (W:World) (E B n g N i k:Nat) (sl:Value) (hE:Bx W E 37 [.int .i64 n,.int .i64 n,.slice (some ⟨g,0,none⟩) N N]) (hm:MatS W (.agg #[.int .i64 n,.int .i64 n,.slice (some ⟨g,0,none⟩) N N]) n n oneF) (hB:Bx W B 37 [.int .i64 n,.int .i64 n,sl]) (hi:i<n) (hk:k<n) (hn:n≤2048) :
  Calls Tryz.prog 66 #[.int .i64 (i:Nat),.int .i64 (k:Nat),.pointer (some ⟨E,0,none⟩),.pointer (some ⟨B,0,none⟩)] W fun e w'=>e=.returned (fracV (oneF i k))∧Below W.heap.size W w':=by
 obtain⟨x,he,hl,hv⟩:=hm.mat
 obtain⟨t,ht⟩:∃ t,t=i*n+k:=⟨_,rfl⟩
 have htl:t<n*n:=by rw[ht];exact pos_lt hi hk
 have hn4:n*n≤4194304:=Nat.mul_le_mul hn hn
 obtain⟨b,off,cap,A1,A2,A3,A4,A5,rfl,hb,hA',hA,d0,d1,d2,d3,d4⟩:=hv.at (i:=t) (by rw[hl];exact htl)
 rw[ht,dense_getD oneF hi hk] at hA hA'
 obtain⟨rfl,rfl,hNN⟩:g=b∧off=0∧N=n*n:=by
  have h9:=congrArg (fun v=>match v with | Value.agg a=>a.toList | _=>[]) he
  simp only[List.cons.injEq,Value.slice.injEq,Option.some.injEq,Addr.mk.injEq,true_and,and_true] at h9
  exact⟨h9.1.1,h9.1.2.symm,by rw[h9.2.1,hl]⟩
 obtain⟨d,hd⟩:∃ d,d=i*n:=⟨_,rfl⟩
 have hw1:IntKind.i64.wrap ((i:Int)*n)=(d:Int):=by rw[hd,←Int.natCast_mul];exact IntWalk.i64_in _ (by omega)
 have hw2:IntKind.i64.wrap ((d:Int)+k)=(t:Int):=by rw[ht,hd,←Int.natCast_add];exact IntWalk.i64_in _ (by omega)
 have htn:(t:Int)<N:=by omega
 have ht0:(0:Int)≤t:=by omega
 rw[hA]
 simp only[Nat.zero_add] at d0 d1 d2 d3 d4
 have hin:=In.self W
 have x0:=hE.c0
 have x1:=hE.c1
 have x2:=hE.c2
 have xl:=hE.lt
 have y0:=hB.c0
 have yl:=hB.lt
 clear hv hl ht hd hA hA' hn4 hm he htl hNN hE hB
 go_enter Tryz.func66,Tryz.ntmps66
 go_upto_region 1 with fail
 ((obtain⟨X,hXX⟩:∃ z,z=W.heap.size:=⟨_,rfl⟩);(have bV0:=(Bx.new_at W #[.int .u64 0,.string ⟨#[]⟩,.bool false,.int .u64 0,.string ⟨#[]⟩] 72 (n:=X) (by simp[hXX])));(have hV:=((In.self W).alloc (.cells #[.int .u64 0,.string ⟨#[]⟩,.bool false,.int .u64 0,.string ⟨#[]⟩] 72)));(rw[←hXX] at hV ⊢);(have HX:=Lib.hid hXX);clear hXX;(generalize W.alloc (.cells #[.int .u64 0,.string ⟨#[]⟩,.bool false,.int .u64 0,.string ⟨#[]⟩] 72)=V at *))
 rw[HX.out] at hV
 have hcc:=hV.cell
 rw[←hcc _ _ hb] at d0 d1 d2 d3 d4
 rw[←hcc _ _ xl] at x0 x1 x2
 rw[←hcc _ _ yl] at y0
 have hsz:=hV.siz
 replace hb:=Nat.lt_of_lt_of_le hb hsz
 replace xl:=Nat.lt_of_lt_of_le xl hsz
 replace yl:=Nat.lt_of_lt_of_le yl hsz
 clear hcc hsz
 replace hin:=hV
 have bq:=bV0
 clear hV bV0
 (have q0:=bq.c0;have q1:=bq.c1;have q2:=bq.c2;have q3:=bq.c3;have q4:=bq.c4;(have f0:=bq.frozen 0);(have f1:=bq.frozen 1);(have f2:=bq.frozen 2);(have f3:=bq.frozen 3);(have f4:=bq.frozen 4);have ql:=bq.lt;(have K1:=Lib.hid ((((((bq.set 0 (.int .u64 A1)).set 1 (.string A2)).set 2 (.bool A3)).set 3 (.int .u64 A4)).set 4 (.string A5))));(have K2:=Lib.hid ((((((hin.setCell (p:=⟨X,0,none⟩) (by first |(simp;done)|(have:=HX.out;simp;omega)) (.int .u64 A1)).setCell (p:=⟨X,1,none⟩) (by first |(simp;done)|(have:=HX.out;simp;omega)) (.string A2)).setCell (p:=⟨X,2,none⟩) (by first |(simp;done)|(have:=HX.out;simp;omega)) (.bool A3)).setCell (p:=⟨X,3,none⟩) (by first |(simp;done)|(have:=HX.out;simp;omega)) (.int .u64 A4)).setCell (p:=⟨X,4,none⟩) (by first |(simp;done)|(have:=HX.out;simp;omega)) (.string A5))));clear bq hin;go_wp2_with fail;have k1:=K1.out;have k2:=K2.out;clear q0 q1 q2 q3 q4 f0 f1 f2 f3 f4 ql K1 K2;(generalize ((((V.setCell ⟨X,0,none⟩ (.int .u64 A1)).setCell ⟨X,1,none⟩ (.string A2)).setCell ⟨X,2,none⟩ (.bool A3)).setCell ⟨X,3,none⟩ (.int .u64 A4)).setCell ⟨X,4,none⟩ (.string A5)=W5 at *);(have e0:W5.cell? ⟨X,0,none⟩=some (.int .u64 A1):=k1.cell 0);(have e1:W5.cell? ⟨X,1,none⟩=some (.string A2):=k1.cell 1);(have e2:W5.cell? ⟨X,2,none⟩=some (.bool A3):=k1.cell 2);(have e3:W5.cell? ⟨X,3,none⟩=some (.int .u64 A4):=k1.cell 3);(have e4:W5.cell? ⟨X,4,none⟩=some (.string A5):=k1.cell 4);have hz:=k2.bel;(refine bodyPost_ret (v:=.agg #[.int .u64 A1,.string A2,.bool A3,.int .u64 A4,.string A5]) ?_ rfl ⟨rfl,hz⟩);(simp[results,Tryz.results66,go_sem,e0,e1,e2,e3,e4]))
theorem begM_one {n:Nat} (A:Mx) {r c:Nat} (hr:r<n) (_hc:c<n+n):begM (dense n n A) n oneF r c=augI n A r c:=by
 unfold begM augI
 by_cases h:c<n
 ·rw[if_pos h,if_pos h,dense_getD A hr h]
 ·rw[if_neg h,if_neg h];rfl
theorem MatS.q {w:World} {v:Value} {r c:Nat} {F:Mx} (h:MatS w v r c F):MatQ w v r c (dense r c F):=by
 obtain⟨g,n,hn,rfl,hb⟩:=h
 have e:n=(dense r c F).length:=by rw[dense_length,hn]
 subst e
 exact⟨g,0,_,rfl,dense_length r c F,Nat.le_refl _,hb.lt,fun j _=>by rw[hb.cell,Nat.zero_add]⟩
theorem inv_piv {n:Nat} (A:Mx):(elim n (augI n A) n).piv.length<n↔¬ NS n A:=by
 have h1:=(elim_red n n (augI n A) n).len
 have h2:=full_iff (n:=n) (M:=augI n A)
 rw[augI_ns] at h2
 constructor
 ·intro h hn
  have:=h2.2 hn
  omega
 ·intro h
  rcases Nat.lt_or_ge (elim n (augI n A) n).piv.length n with h3 | h3
  ·exact h3
  ·exact absurd (h2.1 (by omega)) h
def InvP (w:World) (n:Nat) (A:Mx) (e:Ending) (w':World):Prop:=((NS n A∧∃ d,e=.returned (.tuple #[d,.int .i64 0])∧MatS w' d n n (invM n A))∨(¬ NS n A∧e=.returned (.tuple #[zeroSp,.int .i64 6])))∧Below w.heap.size w w'
set_option maxRecDepth 100000 in
set_option maxHeartbeats 16000000 in
theorem einverse_any {z:Nat} (w:World) (v:Value) (n:Nat) (A:Mx) (hA:MatS w v n n A) (hn:n≤16) (hz1:1≤z) (hzA:Mz n n z A) (hcap:5*(z*5 ^ n)+2<17592186044416) :
  Calls Tryz.prog 25 #[v] w (InvP w n A):=by
 have HA:=Lib.hid hA
 obtain⟨ag,N,kd,hN,rfl⟩:=hA.shape
 have HN:=Lib.hid hN
 have csq:=fun W=>esquare_ok W n N ag kd (by omega) hN
 have HZ:=Lib.hid (augI_szk hz1 hzA)
 have hin:=In.self w
 clear hA hN hzA
 go_enter Tryz.func25,Tryz.ntmps25
 go_upto_region 1 with fail
 ((obtain⟨X,hXX⟩:∃ z,z=w.heap.size:=⟨_,rfl⟩);(have bV0:=((Bx.new_at w #[.int .i64 n,.int .i64 n,.slice ag N kd] 37 (n:=X) (by simp[hXX])).alloc (.cells #[.int .i64 0,.int .i64 0,.slice none 0 0] 37)));(have bV1:=(Bx.new_at (w.alloc (.cells #[.int .i64 n,.int .i64 n,.slice ag N kd] 37)) #[.int .i64 0,.int .i64 0,.slice none 0 0] 37 (n:=X+1) (by simp[hXX])));(have hV:=(((In.self w).alloc (.cells #[.int .i64 n,.int .i64 n,.slice ag N kd] 37)).alloc (.cells #[.int .i64 0,.int .i64 0,.slice none 0 0] 37)));(rw[←hXX] at hV ⊢);(have HX:=Lib.hid hXX);clear hXX;(generalize (w.alloc (.cells #[.int .i64 n,.int .i64 n,.slice ag N kd] 37)).alloc (.cells #[.int .i64 0,.int .i64 0,.slice none 0 0] 37)=V at *))
 have hV0:=hV
 rw[HX.out] at hV0
 have hA:=HA.out.call hV0.bel
 clear hV0 hin HA
 (have x0:=bV0.c0;have x1:=bV0.c1;have x2:=bV0.c2;have xl:=bV0.lt)
 (go_wp2_with fail;(((with_reducible refine(csq _).mono ?_)));rintro e wc1 ⟨rfl,hb⟩;clear x0 x1 x2 xl csq;replace hV:=hV.call hb;replace hA:=hA.call hb;replace bV0:=bV0.call hb;replace bV1:=bV1.call hb;clear hb)
 have cone:=fun W=>mone_any W n (by omega)
 (have x0:=bV0.c0;have x1:=bV0.c1;have x2:=bV0.c2;have xl:=bV0.lt)
 (go_wp2_with fail;(((with_reducible refine(cone _).mono ?_)));(rintro e wc2 ⟨⟨d,rfl,hd⟩,hb⟩);clear x0 x1 x2 xl cone;replace hV:=hV.call hb;replace hA:=hA.call hb;replace bV0:=bV0.call hb;replace bV1:=bV1.call hb;clear hb)
 obtain⟨g1,N1,hN1,he,hb1⟩:=id hd
 subst he
 have HN1:=Lib.hid hN1
 clear hN1 hb1
 go_upto_region 5 with fail
 ((obtain⟨O,hO⟩:∃ z,z=wc2.heap.size:=⟨_,rfl⟩);(have bO:=Bx.new_at wc2 #[.int .i64 n,.int .i64 n,.slice (some ⟨g1,0,none⟩) N1 N1] 37 hO);(replace hV:=hV.alloc (.cells #[.int .i64 n,.int .i64 n,.slice (some ⟨g1,0,none⟩) N1 N1] 37));(replace bV0:=bV0.alloc (.cells #[.int .i64 n,.int .i64 n,.slice (some ⟨g1,0,none⟩) N1 N1] 37));(replace bV1:=bV1.alloc (.cells #[.int .i64 n,.int .i64 n,.slice (some ⟨g1,0,none⟩) N1 N1] 37));(replace hA:=hA.call ((Below.refl _ _).alloc (Nat.le_refl _) (.cells #[.int .i64 n,.int .i64 n,.slice (some ⟨g1,0,none⟩) N1 N1] 37)));(replace hd:=hd.call ((Below.refl _ _).alloc (Nat.le_refl _) (.cells #[.int .i64 n,.int .i64 n,.slice (some ⟨g1,0,none⟩) N1 N1] 37)));(rw[←hO]);clear hO;(generalize wc2.alloc (.cells #[.int .i64 n,.int .i64 n,.slice (some ⟨g1,0,none⟩) N1 N1] 37)=W3 at *))
 have cbg:=ebegun_any W3 _ n n n (dense n n A) hA.q 66 #[.pointer (some ⟨O,0,none⟩),.pointer (some ⟨X,0,none⟩)] (enters_of Tryz.func66 (by kernel_rfl) rfl) oneF (by omega) (by omega) (by omega) (fun h=>h) (fun i k W hi hk hW=>einv1_any W O X n g1 N1 i k _ (bO.call hW.bel) (hd.call hW.bel) (bV0.call hW.bel) hi hk (by omega))
 have hself:=In.self W3
 (have x0:=bV0.c0;have x1:=bV0.c1;have x2:=bV0.c2;have xl:=bV0.lt)
 (have y0:=bO.c0;have y1:=bO.c1;have y2:=bO.c2;have yl:=bO.lt)
 go_wp2_with fail
 (refine cbg.mono ?_)
 rintro e W2 ⟨p,ra,rc,f,rfl,hin2,el⟩
 have cr:=reduce_any W2 _ p n (n+n) n rc ra f (augI n A) (el.congr (M':=augI n A) fun r c hr hc=>begM_one A hr hc) (by omega) (by omega) (by omega) hin2.siz hz1 HZ.out hcap
 clear cbg el x0 x1 x2 xl y0 y1 y2 yl
 go_wp2_with fail
 (refine cr.mono ?_)
 rintro e W3 ⟨f3,pv,rfl,hin3,el⟩
 replace hin2:=hin2.trans hin3
 replace hV:=hV.call hin2.bel
 replace bV0:=bV0.call hin2.bel
 replace bV1:=bV1.call hin2.bel
 have hpiv:=inv_piv (n:=n) A
 obtain⟨s,hs⟩:∃ s,s=elim n (augI n A) n:=⟨_,rfl⟩
 have hle:s.piv.length≤n:=by rw[hs];exact(elim_red n n (augI n A) n).len
 rw[←hs] at el hpiv
 obtain⟨pa,pc,hpe⟩:=el.pvShape
 obtain⟨K,hK⟩:∃ K,K=s.piv.length:=⟨_,rfl⟩
 rw[←hK] at hpe hpiv hle
 subst hpe
 have HS:=Lib.hid hs
 have hrc:=el.rcap
 clear hs cr hin3 hself hin2 bO hd hA
 have hbox:=el.box
 have b0:=hbox.c0
 have b1:=hbox.c1
 have b2:=hbox.c2
 have bl:=hbox.lt
 have x0:=bV0.c0
 have x1:=bV0.c1
 have xl:=bV0.lt
 have HP:=Lib.hid hpiv
 clear hpiv
 go_upto_region 6 with fail
 (refine wp_region_all (fun w'=>w'=W3.drew) (by kernel_rfl) (by kernel_rfl) rfl ?_;(repeat (first |(apply wpQuiet_run;(focus rfl);(focus (rintro _ rfl;go_simp;exact rfl));refine tput ?_)|(apply wpQuiet_skip;(focus rfl);refine tput ?_)));refine wpQuiet_nil ?_;rintro _ rfl)
 have hb:=(Below.refl W3.heap.size W3).drew
 replace hV:=hV.call hb
 replace bV0:=bV0.call hb
 replace bV1:=bV1.call hb
 replace el:=el.call hb
 clear hb b0 b1 b2 bl hbox x0 x1 xl
 generalize W3.drew=W4 at *
 rcases Nat.lt_or_ge K n with hKn | hKn
 ·have kI:(K:Int)<n:=by omega
  have HNS:=Lib.hid (HP.out.1 hKn)
  have hin:=hV
  have bq:=bV1
  have bx:=bV0
  clear hKn hV bV0 bV1 el
  ((have r0
       :=bq.c0);
       have r1:=bq.c1;
       have r2:=bq.c2;
       (have f0:=bq.frozen 0);
       (have f1:=bq.frozen 1);
       (have f2:=bq.frozen 2);
       have hrl:=bq.lt;
       (have H1:=Lib.hid (((bq.set 0 (.int .i64 0)).set 1 (.int .i64 0)).set 2 (.slice none 0 0)));
       (have H2:=Lib.hid (((hin.setCell (p:=⟨(X+1),0,none⟩) (by first |(simp;done)|(have:=HX.out;simp;omega)) (.int .i64 0)).setCell (p:=⟨(X+1),1,none⟩) (by first |(simp;done)|(have:=HX.out;simp;omega)) (.int .i64 0)).setCell (p:=⟨(X+1),2,none⟩) (by first |(simp;done)|(have:=HX.out;simp;omega)) (.slice none 0 0)));
       clear bq hin bx;
       go_wp2_with fail;
       have g1:=H1.out;
       have g2:=H2.out;
       clear H1 H2 r0 r1 r2 f0 f1 f2 hrl;
       (generalize ((W4.setCell ⟨(X+1),0,none⟩ (.int .i64 0)).setCell ⟨(X+1),1,none⟩ (.int .i64 0)).setCell ⟨(X+1),2,none⟩ (.slice none 0 0)=W5 at *);
       (have e0:W5.cell? ⟨(X+1),0,none⟩=some (.int .i64 0):=g1.cell 0);
       (have e1:W5.cell? ⟨(X+1),1,none⟩=some (.int .i64 0):=g1.cell 1);
       (have e2:W5.cell? ⟨(X+1),2,none⟩=some (.slice none 0 0):=g1.cell 2);
       have hz:=g2.bel;
       (refine bodyPost_ret (v:=.tuple #[zeroSp,.int .i64 6]) ?_ rfl ⟨.inr ⟨HNS.out,rfl⟩,by rw[←HX.out];exact hz⟩);
       (simp[results,Tryz.results25,go_sem,e0,e1,e2]))
 ·have kI:¬ (K:Int)<n:=by omega
  have HNS:Hid (NS n A):=Lib.hid (Classical.byContradiction fun h=>by have:=HP.out.2 h;omega)
  obtain⟨m2,hm2⟩:∃ m2,m2=n+n:=⟨_,rfl⟩
  have hn2:IntKind.i64.wrap (2*(n:Int))=(m2:Int):=by rw[show(2*(n:Int))=(m2:Int) by omega];exact IntWalk.i64_in _ (by omega)
  have cp:=epart_any W4 _ p n (n+n) n rc n m2 n ra (.slice pa K pc) f3 s el hm2.symm (Nat.le_of_eq hm2) (by omega) (by omega) (by omega)
  clear el hKn hm2
  (have x0:=bV0.c0;have x1:=bV0.c1;have x2:=bV0.c2;have xl:=bV0.lt)
  (go_wp2_with fail;(((with_reducible refine(cp).mono ?_)));(rintro e wc1 ⟨⟨d,rfl,hd⟩,hb⟩);clear x0 x1 x2 xl cp;replace hV:=hV.call hb;replace bV0:=bV0.call hb;replace bV1:=bV1.call hb;clear hb)
  replace hd:MatS wc1 d n n (invM n A):=hd.congr fun i k _ _=>by rw[HS.out];rfl
  obtain⟨ad,N2,kd2,hN2,rfl⟩:=hd.shape
  have hin:=hV
  have bq:=bV1
  clear hN2 hV bV0 bV1
  ((have K5
       :=Lib.hid (hd.put3 (p':=((n:Nat):Int)) (q':=((n:Nat):Int)) (ao':=ad) (n':=N2) (k':=kd2) bq));
       have r0:=bq.c0;
       have r1:=bq.c1;
       have r2:=bq.c2;
       (have f0:=bq.frozen 0);
       (have f1:=bq.frozen 1);
       (have f2:=bq.frozen 2);
       have ql:=bq.lt;
       (have K1:=Lib.hid (((bq.set 0 (.int .i64 ((n:Nat):Int))).set 1 (.int .i64 ((n:Nat):Int))).set 2 (.slice ad N2 kd2)));
       (have K2:=Lib.hid (((hin.setCell (p:=⟨(X+1),0,none⟩) (by first |(simp;done)|(have:=HX.out;simp;omega)) (.int .i64 ((n:Nat):Int))).setCell (p:=⟨(X+1),1,none⟩) (by first |(simp;done)|(have:=HX.out;simp;omega)) (.int .i64 ((n:Nat):Int))).setCell (p:=⟨(X+1),2,none⟩) (by first |(simp;done)|(have:=HX.out;simp;omega)) (.slice ad N2 kd2)));
       clear bq hin hd;
       go_wp2_with fail;
       have k1:=K1.out;
       have k2:=K2.out;
       have hm:=K5.out;
       clear r0 r1 r2 f0 f1 f2 ql K1 K2 K5;
       (generalize (((wc1.setCell ⟨(X+1),0,none⟩ (.int .i64 ((n:Nat):Int))).setCell ⟨(X+1),1,none⟩ (.int .i64 ((n:Nat):Int))).setCell ⟨(X+1),2,none⟩ (.slice ad N2 kd2))=W9 at *);
       (have e0:W9.cell? ⟨(X+1),0,none⟩=some (.int .i64 ((n:Nat):Int)):=k1.cell 0);
       (have e1:W9.cell? ⟨(X+1),1,none⟩=some (.int .i64 ((n:Nat):Int)):=k1.cell 1);
       (have e2:W9.cell? ⟨(X+1),2,none⟩=some (.slice ad N2 kd2):=k1.cell 2);
       have hz:=k2.bel;
       (refine bodyPost_ret (v:=.tuple #[.agg #[.int .i64 ((n:Nat):Int),.int .i64 ((n:Nat):Int),.slice ad N2 kd2],.int .i64 0]) ?_ rfl ⟨.inl ⟨HNS.out,_,rfl,hm⟩,by rw[←HX.out];exact hz⟩);
       (simp[results,Tryz.results25,go_sem,e0,e1,e2]))
end Gus
end
