/- Proved here: parts of the proof: KSqu KSqv. Conditions: those that each theorem states. -/
import Derived.Test.YthblojaeoiemmaaGreatDoorKSqqQ
section
namespace Gus
open Go Go.RowKit Go.Proofs
theorem mk_ints2 (L:Nat) (hL:L≤8796093022208) (w:World):(Instr.makeSlice 22 (.int .i64 (L:Int)) (.int .i64 (L:Int))).run Tryz.prog w =
  .ok (.slice (some ⟨w.heap.size,0,none⟩) L L) (w.alloc (.cells (icl (List.replicate L 0)).toArray 3)):=by
 obtain⟨i0,hi,hz0,hz1,hz2⟩:=info_parts info_int8
 have:=run_make (P:=Tryz.prog) w 22 3 i0 (.int .i64 0) Tryz.underlying22 hi hz0 .i64 .i64 L L (by omega) (Int.le_refl _) (by rw[hz2];omega) (by omega)
 rw[this]
 simp only[Int.toNat_natCast,hz1,Nat.mul_one]
 have e:madeCells #[Value.int .i64 0] L=(icl (List.replicate L 0)).toArray:=by
  apply Array.toList_inj.1
  rw[toList_madeCells_one]
  simp[icl]
 rw[←e];rfl
def plL (n:Nat) (oo:List Nat) (k:Nat):List Nat:=(List.range n).map fun x=>if x∈oo.take k then oo.idxOf x else 0
theorem plL_zero (n:Nat) (oo:List Nat):plL n oo 0=List.replicate n 0:=by
 apply List.ext_getElem <;> simp[plL]
theorem plL_set {n:Nat} {oo:List Nat} (hn:oo.Nodup) {k:Nat} (hk:k<oo.length):(icl (plL n oo k)).set (oo.getD k 0) (.int .i64 (k:Nat))=icl (plL n oo (k+1)):=by
 have e1:=take_snoc0 oo hk
 unfold icl
 rw[show(Value.int .i64 ((k:Nat):Int))=(fun(d:Nat)=>Value.int .i64 (d:Int)) k from rfl,←List.map_set]
 congr 1
 apply List.ext_getElem
 ·simp[plL]
 ·intro i h1 h2
  simp only[plL,List.getElem_set,List.getElem_map,List.getElem_range]
  by_cases h:oo.getD k 0=i
  ·subst h
   rw[if_pos rfl,if_pos (by rw[←e1];simp),idx_getD hn hk]
  ·rw[if_neg h]
   have e2:i∈oo.take (k+1)↔i∈oo.take k:=by
    rw[←e1,List.mem_append,List.mem_singleton]
    exact⟨fun h3=>h3.elim id fun h4=>absurd h4.symm h,.inl⟩
   by_cases h3:i∈oo.take k
   ·rw[if_pos h3,if_pos (e2.2 h3)]
   ·rw[if_neg h3,if_neg fun h4=>h3 (e2.1 h4)]
theorem plL_get {n x:Nat} {oo:List Nat} (hx:x<n) (hm:x∈oo):(icl (plL n oo oo.length))[x]?=some (.int .i64 (oo.idxOf x:Nat)):=by
 unfold icl plL
 simp[List.getElem?_range hx,hm]
theorem owns_low {w:World} {lo lo':Nat} {T:TypeId} {s n:Nat} {v:Value} {xs:List Value} (h:w.ownsRow lo T s v n xs) (hl:lo'≤lo):w.ownsRow lo' T s v n xs:=by
 refine⟨h.1, ?_⟩
 rcases h.2 with h2 |⟨g,cap,cur,h1,h0,hg,h3⟩
 ·exact .inl h2
 ·exact .inr ⟨g,cap,cur,h1,Nat.le_trans hl h0,hg,h3⟩
theorem owns_apart {w:World} {lo lo':Nat} {T T':TypeId} {s s' n n':Nat} {v v':Value} {xs xs':List Value} (h:w.ownsRow lo T s v n xs) (h':w.ownsRow lo' T' s' v' n' xs') (hT:T≠T'):∀ k,v.ownBlock=some k→v'.ownBlock≠some k:=fun k hk hk'=>by
 rcases h.2 with ⟨rfl,_⟩|⟨g,cap,cur,rfl,_,hg,_⟩
 ·simp[Value.ownBlock] at hk
 ·rcases h'.2 with ⟨rfl,_⟩|⟨g',cap',cur',rfl,_,hg',_⟩
  ·simp[Value.ownBlock] at hk'
  ·simp[Value.ownBlock] at hk hk'
   subst hk hk'
   rw[hg] at hg'
   simp at hg'
   exact hT hg'.2
theorem info_ints24:(Tryz.prog.info? 22).map (fun i=>(i.zero,i.size,i.bytes))=some (some (.slice none 0 0),1,24):=by kernel_rfl
def MovP (w:World) (xs:List Value) (gs:List (List Nat)) (oo:List Nat) (j:Nat):Prop:=∀ t,t<j→w.ownsRow 0 3 1 (xs.getD t undef) (gs.getD t []).length (icl (places oo (gs.getD t [])))
theorem owns_keep {wi w9:World} {lo n n':Nat} {x v:Value} {zs ys:List Value} {o:Obj} (h:wi.ownsRow 0 3 1 x n zs) (h':wi.ownsRow lo 22 1 v n' ys) (hgr:(wi.alloc o).grownBy w9 v.ownBlock):w9.ownsRow 0 3 1 x n zs:=
 ownsRow_kept h fun k hk=>by
  have hlt:=(h.lt k hk).2
  rw[hgr.block k (Nat.lt_of_lt_of_le hlt ((Below.refl wi.heap.size wi).alloc (Nat.le_refl _) o).size) (fun e=>owns_apart h h' (by decide) k hk e.symm)]
  exact((Below.refl wi.heap.size wi).alloc (Nat.le_refl _) o).block k hlt
theorem MovP.call {w w':World} {xs:List Value} {gs:List (List Nat)} {oo:List Nat} {j:Nat} (h:MovP w xs gs oo j) (hb:Below w.heap.size w w'):MovP w' xs gs oo j:=fun t ht=>ownsRow_bel (h t ht) hb
theorem MovP.snoc {wi w9:World} {xs ys:List Value} {gs:List (List Nat)} {oo:List Nat} {j lo n':Nat} {x v:Value} {o:Obj} (h:MovP wi xs gs oo j) (hx:xs.length=j) (hown:wi.ownsRow 0 3 1 x (gs.getD j []).length (icl (places oo (gs.getD j [])))) (h':wi.ownsRow lo 22 1 v n' ys) (hgr:(wi.alloc o).grownBy w9 v.ownBlock):MovP w9 (xs ++ [x]) gs oo (j+1):=fun t ht=>by
 rcases Nat.lt_or_ge t j with h1 | h1
 ·have e:(xs ++ [x]).getD t undef=xs.getD t undef:=by
   simp only[List.getD_eq_getElem?_getD,List.getElem?_append_left (show t<xs.length by omega)]
  rw[e];exact owns_keep (h t h1) h' hgr
 ·obtain rfl:t=j:=by omega
  have e:(xs ++ [x]).getD t undef=x:=by
   subst hx
   simp[List.getD_eq_getElem?_getD]
  rw[e];exact owns_keep hown h' hgr
theorem owns_cap {w:World} {lo n:Nat} {T:TypeId} {v:Value} {xs:List Value} (h:w.ownsRow lo T 1 v n xs):∃ a c,v=.slice a n c∧n≤c:=by
 rcases h.2 with ⟨h1,h2⟩|⟨g,cap,cur,h1,_,_,h3,_⟩
 ·exact⟨none,0,by rw[h1,h2],by omega⟩
 ·exact⟨_,_,h1,h3⟩
theorem moved_gs {w:World} {lo:Nat} {v:Value} {xs:List Value} {gs:List (List Nat)} {oo:List Nat} (h:w.ownsRow lo 22 1 v gs.length xs) (hx:xs.length=gs.length) (hm:MovP w xs gs oo gs.length):GsAt w v ((gs.map (places oo)).map zl):=by
 obtain⟨a,c,hv⟩:∃ a c,v=.slice a gs.length c:=by
  rcases h.2 with ⟨h1,h2⟩|⟨g,cap,cur,h1,_⟩
  ·exact⟨none,0,by rw[h1,h2]⟩
  ·exact⟨_,_,h1⟩
 refine⟨a,c,by rw[hv];simp,fun i hi=>?_⟩
 have hi':i<gs.length:=by simpa using hi
 have hlen:gs.length≠0:=by omega
 rcases h.2 with ⟨_,h2⟩|⟨g,cap,cur,h1,h0,hg,_⟩
 ·exact absurd h2 hlen
 ·rw[h1] at hv
  injection hv with e1 e2 e3
  subst e1
  have hcell:=h.cells (g:=g) (by rw[h1];rfl) i (xs.getD i undef) (by
   rw[List.getD_eq_getElem?_getD,List.getElem?_eq_getElem (by omega)];rfl)
  have h5:=hm i hi'
  rw[show(gs.getD i []).length=(places oo (gs.getD i [])).length from(places_length _ _).symm] at h5
  obtain⟨a2,c2,hx2,hI⟩:=pivs_ints h5
  rw[hx2,Addr.add_lit] at hcell
  have e:(((gs.map (places oo)).map zl).getD i [])=zl (places oo (gs.getD i [])):=by
   simp[List.getD_eq_getElem?_getD,List.getElem?_eq_getElem hi']
  rw[e,zl_length]
  refine⟨g,0,a2,c2,rfl,(Array.getElem?_eq_some_iff.1 hg).1,hcell,hI⟩
end Gus
end
section
namespace Gus
open Go Go.RowKit Go.Proofs
def CapS (v:Value):Prop:=∃ a l c,v=.slice a l c∧l≤c
def NestP (w:World) (k:Nat) (gs:List (List Nat)) (n:Nat) (M:Mx) (b:Vc) (e:Ending) (w':World):Prop:=((nestOk k gs n M∧∃ d,e=.returned (.tuple #[d,.int .i64 0])∧VecAt w' d (vl n (nestV k gs n M b)))∨(¬ nestOk k gs n M∧e=.returned (.tuple #[.slice none 0 0,.int .i64 6])))∧Below w.heap.size w w'
def NestC:Nat→List (List Nat)→Nat→Mx→Nat→Prop
 | 0,_,n,_,z=>5*(z*5 ^ n)+2<17592186044416
 | _+1,[],_,_,_=>True
 | k+1,g :: gs,n,M,z=>5*(z*5 ^ g.length)+2<17592186044416∧(NS g.length (sub M g g)→gz g.length z<17592186044416∧NestC k (gs.map (places (outer n g))) (outer n g).length (schur M g (outer n g) (invM g.length (sub M g g))) (gz g.length z) ∧
  (nestOk k (gs.map (places (outer n g))) (outer n g).length (schur M g (outer n g) (invM g.length (sub M g g)))→ez g.length (outer n g).length z (nestZ (gs.map List.length) (n - g.length) (gz g.length z))<17592186044416∧z+(1+(outer n g).length*(z+nestZ (gs.map List.length) (n - g.length) (gz g.length z)+1))+1<17592186044416))
theorem nestZ_pos:∀ (l:List Nat) (n z:Nat),1≤nestZ l n z
 | [],_,_=>by unfold nestZ;omega
 | _ :: _,_,_=>by unfold nestZ;omega
def
  NestAll (k:Nat):Prop:=∀ (gs:List (List Nat)) (z:Nat) (w:World) (v gv bv:Value) (n:Nat) (M:Mx) (b:Vc),gs.length=k→k≤4096→MatS w v n n M→GsAt w gv (gs.map zl)→CapS gv→Grp n gs.flatten→VecAt w bv (vl n b)→n≤16→1≤z→Mz n n z M→Vz n z b→NestC k gs n M z →
  Calls Tryz.prog 55 #[v,gv,bv] w (NestP w k gs n M b)
set_option maxRecDepth 100000 in
set_option maxHeartbeats 40000000 in
theorem nest_zero:NestAll 0:=by
 intro gs z w v gv bv n M b hk hkB hM hG hC hg hb hn hz hzM hbz hcap
 obtain rfl:gs=[]:=List.eq_nil_of_length_eq_zero hk
 have cl:=fun W (h:Below w.heap.size w W)=>sleft_any W v bv n M b (hM.call h) (hb.call h) hn hz hzM hbz hcap
 obtain⟨ag,N,kd,-,rfl⟩:=hM.shape
 obtain⟨ga,gc,rfl⟩:=hG.shape
 obtain⟨ba,bc,rfl⟩:=hb.shape
 rw[vl_length] at cl ⊢
 have hin:=In.self w
 clear hM hG hC hb hk hg hzM hbz hcap
 simp only[List.map_nil,List.length_nil]
 go_enter Tryz.func55,Tryz.ntmps55
 go_upto_region 1 with fail
 ((obtain⟨X,hX⟩:∃ z,z=w.heap.size:=⟨_,rfl⟩);(have bX:=Bx.new_at w #[.int .i64 n,.int .i64 n,.slice ag N kd] 37 hX);(replace hin:=hin.alloc (.cells #[.int .i64 n,.int .i64 n,.slice ag N kd] 37));(rw[←hX]);clear hX;(generalize w.alloc (.cells #[.int .i64 n,.int .i64 n,.slice ag N kd] 37)=W1 at *))
 (have x0:=bX.c0;have x1:=bX.c1;have x2:=bX.c2;have xl:=bX.lt)
 (go_wp2_with fail;(((with_reducible refine(cl _ hin.bel).mono ?_)));(rintro e w2 ⟨hI,hb⟩);clear x0 x1 x2 xl cl;replace hin:=hin.call hb;replace bX:=bX.call hb;clear hb)
 have hbel:=hin.bel
 clear bX
 rcases hI with ⟨hns,d,rfl,hd⟩|⟨hns,rfl⟩
 ·obtain⟨da,dc,rfl⟩:=hd.shape
  rw[vl_length] at hd ⊢
  have H1:=Lib.hid hd
  have HNS:=Lib.hid hns
  clear hd hns
  go_wp2_with fail
  exact bodyPost_ret (v:=.tuple #[.slice da n dc,.int .i64 0]) (by simp[results,Tryz.results55,go_sem]) rfl ⟨.inl ⟨HNS.out,_,rfl,H1.out⟩,hbel⟩
 ·have HNS:=Lib.hid hns
  clear hns
  go_wp2_with fail
  exact bodyPost_ret (v:=.tuple #[.slice none 0 0,.int .i64 6]) (by simp[results,Tryz.results55,go_sem]) rfl ⟨.inr ⟨HNS.out,rfl⟩,hbel⟩
set_option maxRecDepth 100000 in
set_option maxHeartbeats 40000000 in
def nest_step_q1:{P:Prop // P→∀ (k:Nat) (_:NestAll k),NestAll (k+1)}:=⟨_,fun Kcut=>by
 replace Kcut:Keep _:=⟨Kcut⟩
 intro k ih
 intro gs0 z w v gv bv n M b hk hkB hM hG hC hg hb hn hz hzM hbz hcap
 obtain⟨g,gs,rfl⟩:∃ g gs,gs0=g :: gs:=by cases gs0 with | nil=>exact absurd hk (by simp)| cons g gs=>exact⟨g,gs,rfl⟩
 obtain⟨hg1,hg2,hg3⟩:=hg.cons
 have hs:=hg1.split
 have hlen:=hs.len
 have ho:∀ i∈outer n g,i<n:=fun i h=>hs.lt (.inr h)
 obtain⟨hcap,hcap2⟩:=hcap
 obtain⟨Y,hY⟩:∃ Y,Y=nestZ (gs.map List.length) (n - g.length) (gz g.length z):=⟨_,rfl⟩
 rw[←hY] at hcap2
 have e1:(gs.map (places (outer n g))).map List.length=gs.map List.length:=by
  rw[List.map_map]
  exact List.map_congr_left fun l _=>places_length _ l
 have hY1:1≤Y:=by rw[hY];exact nestZ_pos _ _ _
 have hNz:=invM_szk hz (sub_szk hzM hg1.2 hg1.2)
 have hSz:=schur_szk hz hzM hg1.2 ho
 have hCz:=cond_szk hz hzM hbz hg1.2 ho
 have hYz:=nestV_szk k (gs.map (places (outer n g))) (by simpa using hk) hg3 (Nat.le_trans hz (z_le_gz g.length z)) hSz hCz
 rw[e1,show nestZ (gs.map List.length) (outer n g).length (gz g.length z)=Y by rw[show(outer n g).length=n - g.length by omega,hY]] at hYz
 obtain⟨ag,N,kd,-,rfl⟩:=hM.shape
 have HM:=Lib.hid hM
 have HG:=Lib.hid hG
 obtain⟨ga,gc,rfl⟩:=hG.shape
 have HB:=Lib.hid hb
 obtain⟨ba,bc,rfl⟩:=hb.shape
 rw[List.length_map,hk] at HG ⊢
 rw[vl_length] at HB ⊢
 obtain⟨ga',gc',hge,hcell⟩:=hG
 injection hge with e2 e3 e4
 subst e2
 obtain⟨gb,goff,gx,gxc,rfl,hgb,hgc,hgx⟩:=hcell 0 (by simp)
 have e0:((g :: gs).map zl).getD 0 []=zl g:=rfl
 rw[e0,zl_length,Nat.add_zero] at hgc
 rw[e0] at hgx
 have hgg:GrpAt w (.slice gx g.length gxc) g:=⟨gx,gxc,rfl,hgx⟩
 have HC:Hid (∀ j,j<gs.length→∃ x xc,w.cell? ⟨gb,goff+(j+1),none⟩=some (.slice x (gs.getD j []).length xc)∧IntsAt w x (zl (gs.getD j []))):=Lib.hid (fun j hj=>by
  obtain⟨b',off',x,xc,he,_,h1,h2⟩:=hcell (j+1) (by simp;omega)
  injection he with he
  injection he with e5 e6
  subst e5 e6
  have e:((g :: gs).map zl).getD (j+1) []=zl (gs.getD j []):=by simp[List.getD_eq_getElem?_getD,List.getElem?_eq_getElem hj]
  rw[e,zl_length] at h1
  rw[e] at h2
  exact⟨x,xc,h1,h2⟩)
 obtain⟨_,_,_,hce,hgcap⟩:=hC
 injection hce with hce0 hce1 hce2
 clear hce0
 rw[←hce1,←hce2] at hgcap
 rw[List.length_map,hk] at hgcap
 have hkl:gs.length=k:=by simpa using hk
 have cc:=fun W (h:Below w.heap.size w W)=>scut_any W _ _ n g M (HM.out.call h) (hgg.call h) hg1 hn hz hzM hcap (fun h=>(hcap2 h).1)
 obtain⟨oo,hoo⟩:∃ oo,oo=outer n g:=⟨_,rfl⟩
 rw[←hoo] at cc hs hlen ho hcap2 hSz hCz hYz hg2 hg3
 obtain⟨A,hA⟩:∃ A,A=g.length:=⟨_,rfl⟩
 rw[←hA] at hgc cc
 have HS:=Lib.hid hs
 have HA:=Lib.hid hA
 have HCAP:=Lib.hid hcap2
 have HY1:=Lib.hid hY1
 have HNZ:=Lib.hid hNz
 have HSZ:=Lib.hid hSz
 have HCZ:=Lib.hid hCz
 have HYZ:=Lib.hid hYz
 have HG2:=Lib.hid hg2
 have HG3:=Lib.hid hg3
 have HOO:=Lib.hid hoo
 have HZ1:=Lib.hid hz
 have HZM:=Lib.hid hzM
 have HBZ:=Lib.hid hbz
 have HKL:=Lib.hid hkl
 have HLEN:=Lib.hid hlen
 have hk1:¬ ((k:Int)+1=0):=by omega
 have hkA:A≤16:=by rw[hA];omega
 have hin:=In.self w
 clear hM hcell hgx hgg hg hg1 hg2 hg3 hb hz hzM hbz hcap hcap2 hs hlen ho hY hY1 e1 hNz hSz hCz hYz hoo hA hkl hk e0 hce1 hce2 HG
 go_enter Tryz.func55,Tryz.ntmps55
 go_upto_region 1 with fail
 ((obtain⟨X,hX⟩:∃ z,z=w.heap.size:=⟨_,rfl⟩);(have bX:=Bx.new_at w #[.int .i64 n,.int .i64 n,.slice ag N kd] 37 hX);(replace hin:=hin.alloc (.cells #[.int .i64 n,.int .i64 n,.slice ag N kd] 37));(rw[←hX]);clear hX;(generalize w.alloc (.cells #[.int .i64 n,.int .i64 n,.slice ag N kd] 37)=w1 at *))
 rw[←hin.cell gb _ hgb] at hgc
 have hgl:gb<w1.heap.size:=Nat.lt_of_lt_of_le hgb hin.siz
 (have x0:=bX.c0;have x1:=bX.c1;have x2:=bX.c2;have xl:=bX.lt)
 have k0:(0:Int)<(k:Int)+1:=by omega
 go_upto_region 3 with fail
 refine wp_region_mixT (In w1.heap.size w1) 9 (.quiet 0 (.quiet 1 (.quiet 2 (.quiet 3 (.one 4 (.quiet 5 (.quiet 6 (.quiet 7 (.one 8 (.one 9 .done)))))))))) (by kernel_rfl) (by kernel_rfl) (by kernel_rfl) (by kernel_rfl) (by kernel_rfl) (by kernel_rfl) (by kernel_rfl) (by kernel_rfl) (fun _ _ d _ _ h=>by cases d <;> exact h) ?_ ?_
 ·exact(In.self w1).drew
 (repeat (apply mixT_take;(focus rfl);(focus rfl);(focus (intro w' hw';have hc':=hw'.cell;go_simp;exact rfl));refine tput ?_))
 have hind:=(In.self w1).drew
 replace hin:=hin.call hind.bel
 replace bX:=bX.call hind.bel
 have cc2:=cc w1.drew hin.bel
 clear x0 x1 x2 xl hgc hgl cc
 generalize w1.drew=w2 at *
 (apply mixT_run;(focus rfl);(focus rfl);intro K hK;go_simp)
 (with_reducible refine cc2.mono ?_)
 rintro e w3 ⟨hI,hb⟩
 replace hind:=hind.call hb
 replace hin:=hin.call hb
 replace bX:=bX.call hb
 clear hb cc2
 rcases hI with ⟨hns,d,rfl,hsp⟩|⟨hns,rfl⟩
 ·have HSP:=Lib.hid hsp
  obtain⟨p,a0,c0,a1,c1,g00,n00,g01,n01,g10,n10,g11,n11,gi,ni,xp,np,kp,rfl,hB,hI0,hI1,-⟩:=hsp
  have HNS:=Lib.hid hns
  clear hns hI0
  refine hK _ _ (fun _=>hind) ?_
  clear hK K
  (repeat (apply mixT_take;(focus rfl);(focus rfl);(focus (intro w' hw';have hc':=hw'.cell;go_simp;exact rfl));refine tput ?_))
  (apply mixT_run;(focus rfl);(focus rfl);intro K hK;go_simp)
  refine hK _ _ (fun _=>hind) ?_
  clear hK K
  (apply mixT_run;(focus rfl);(focus rfl);intro K hK;go_simp)
  refine hK _ _ (fun h=>absurd h (by decide)) ?_
  clear hK K
  refine mixT_done ?_
  obtain⟨i0,hi0,hi1,hi2,hi3⟩:=info_parts info_int8
  obtain⟨j0,hj0,hj1,hj2,hj3⟩:=info_parts info_ints24
  obtain⟨O,hO⟩:∃ O,O=oo.length:=⟨_,rfl⟩
  rw[←hO] at hB
  have HO:=Lib.hid hO
  have HI1:=Lib.hid hI1
  have hO16:O≤16:=by rw[hO];have:=HLEN.out;omega
  have hmk:=mk_ints2 n (by omega)
  obtain⟨fc,hfc⟩:∃ fc,fc=icl (List.replicate n 0):=⟨_,rfl⟩
  rw[←hfc] at hmk
  have HF:=Lib.hid hfc
  clear hfc hO hI1
  have x0:=bX.c0;have x1:=bX.c1;have x2:=bX.c2;have xl:=bX.lt
  go_upto_region 7 with fail
  obtain⟨q,hq⟩:∃ q,q=w3.heap.size:=⟨_,rfl⟩
  have HQ:Hid (w3.heap.size≤q):=Lib.hid (Nat.le_of_eq hq.symm)
  have bv:Bx (w3.alloc (.cells fc.toArray 3)) q 3 (icl (plL n oo 0)):=by
   have:=Bx.new_at w3 fc.toArray 3 hq
   rw[plL_zero,←HF.out];exact this
  have hin1:=(In.self w3).alloc (.cells fc.toArray 3)
  rw[←hq]
  clear hq hmk x0 x1 x2 xl
  generalize w3.alloc (.cells fc.toArray 3)=w4 at *
  have hB4:=hB.call hin1.bel
  have p1:w4.cell? ⟨p,1,none⟩=some (.slice a1 O c1):=hB4.box.cell 1
  have pl:=hB4.box.lt
  clear hB4
  go_wp2_with fail
  clear p1 pl
  go_loopw [48] (fun v48 wr=>∃ t:Nat,t≤O∧v48=.int .i64 t∧In w3.heap.size w3 wr∧Bx wr q 3 (icl (plL n oo t))) (fun v48 _=>O - (RowKit.intOf v48).toNat)
  case atStart=>exact⟨0,Nat.zero_le _,rfl,hin1,bv⟩
  case round=>
   clear hin1 bv
   obtain⟨t,ht,rfl,hin1,bv⟩:=hrel
   by_cases htO:t<O
   ·have tI:(t:Int)<O:=by omega
    have t0:(0:Int)≤t:=by omega
    have tw:IntKind.i64.wrap ((t:Int)+1)=((t+1:Nat):Int):=IntWalk.i64_in _ (by omega)
    have htl:t<oo.length:=by rw[←HO.out];exact htO
    obtain⟨pb,po,rfl,hpb,hpc⟩:=(HI1.out.call hin1.bel) t (by rw[zl_length];exact htl)
    rw[zl_getD htl] at hpc
    have hpn:oo.getD t 0<n:=HS.out.lt (.inr (getD_in htl))
    have hst:=plL_set (n:=n) (List.nodup_append.1 HS.out.nodup).2.1 htl
    have hcell:oo.getD t 0<(icl (plL n oo t)).length:=by simp[icl,plL];simpa using hpn
    obtain⟨x,hx⟩:∃ x,x=oo.getD t 0:=⟨_,rfl⟩
    rw[←hx] at hpc hpn hst hcell
    have xI:(x:Int)<n:=by omega
    have xn0:(0:Int)≤x:=by omega
    obtain⟨cv,hcv⟩:∃ cv,(icl (plL n oo t))[x]?=some cv:=⟨_,List.getElem?_eq_getElem hcell⟩
    have d0:=(bv.cell x).trans hcv
    have f0:=bv.frozen x
    have hgl:=bv.lt
    have hs:=bv.set x (.int .i64 (t:Nat))
    rw[hst] at hs
    have H1:=Lib.hid hs
    have H2:=Lib.hid (hin1.setCell (p:=⟨q,x,none⟩) HQ.out (.int .i64 (t:Nat)))
    clear hs hin1 bv hx htl hpn hst hcell hcv
    go_wp2_with fail
    exact⟨⟨t+1,by omega,by go_num,H2.out,H1.out⟩,by simp[RowKit.intOf];omega⟩
   ·obtain rfl:t=O:=by omega
    have tI:¬ (t:Int)<t:=by omega
    rename World=>wb
    have kc:¬ (gc':Int)<(k:Int)+1:=by omega
    have hHB:=HB.out.call (hin.call hin1.bel).bel
    have HSPB:=Lib.hid (HSP.out.call hin1.bel)
    have hinw:=hin.call hin1.bel
    have HINW:=Lib.hid hinw
    have HVB:=Lib.hid hHB
    have HBV:=Lib.hid bv
    have hselfb:=In.self wb
    clear bX hind hB bv hHB hinw hin1 hin
    go_upto_region 13 with fail
    go_cut [59,60,61] from 58 to 61 (fun v59 v60 v61 wx=>∃ o9:Nat,v59=.slice (some ⟨gb,o9,none⟩) k (gc' - 1)∧(0<k→o9=goff+1)∧v60=.int .i64 k∧v61=.int .i64 0∧wb=wx)
    case first=>
     go_wp2_with fail
     ·have h3:k=0:=by omega
      have H3:=Lib.hid h3
      subst h
      clear h3
      go_meet
      exact⟨goff,rfl,fun h=>absurd h (by have:=H3.out;omega),rfl,rfl,rfl⟩
     ·go_meet
      exact⟨_,rfl,fun _=>rfl,rfl,rfl,rfl⟩
    case rest=>
     obtain⟨o9,rfl,ho9,rfl,rfl,rfl⟩:=hcut
     clear kc
     go_wp2_with fail
     go_loopw [13,61] (fun v13 v61 wr=>∃ (j:Nat) (xs:List Value),j≤k∧v61=.int .i64 j∧In wb.heap.size wb wr∧wr.ownsRow wb.heap.size 22 1 v13 j xs∧xs.length=j∧MovP wr xs gs oo j) (fun _ v61 _=>k - (RowKit.intOf v61).toNat)
     case atStart=>exact⟨0,[],Nat.zero_le _,rfl,hselfb,World.ownsRow_nil _ _ _ _,rfl,fun t ht=>absurd ht (Nat.not_lt_zero _)⟩
     case round=>
      clear hselfb
      rename World=>wo
      obtain⟨j,xs,hj,rfl,hin,hown,hxl,hmov⟩:=hrel
      by_cases hjk:j<k
      ·have jI:(j:Int)<k:=by omega
       have jn0:(0:Int)≤j:=by omega
       have jw:IntKind.i64.wrap ((j:Int)+1)=((j+1:Nat):Int):=IntWalk.i64_in _ (by omega)
       have hjl:j<gs.length:=by rw[HKL.out];exact hjk
       obtain⟨gy,gyc,hyc,hyI⟩:=HC.out j hjl
       have hmem:gs.getD j []∈gs:=by rw[List.getD_eq_getElem?_getD,List.getElem?_eq_getElem hjl];exact List.getElem_mem _
       have hgo:∀ i∈gs.getD j [],i∈oo:=fun i hi=>HG2.out i (List.mem_flatten.2 ⟨_,hmem,hi⟩)
       obtain⟨l,hl⟩:∃ l,l=gs.getD j []:=⟨_,rfl⟩
       rw[←hl] at hyc hyI hgo
       have HJ:=Lib.hid hl
       obtain⟨L,hL⟩:∃ L,L=l.length:=⟨_,rfl⟩
       rw[←hL,show goff+(j+1)=o9+j by have:=ho9 (by omega);omega] at hyc
       have HL:=Lib.hid hL
       have hLb:L≤4096:=by
        have h1:=(List.sublist_flatten_of_mem (show places oo (gs.getD j [])∈gs.map (places oo) from List.mem_map.2 ⟨_,hmem,rfl⟩)).length_le
        rw[places_length,←HJ.out,←hL] at h1
        have h2:=HG3.out.le
        rw[←HO.out] at h2
        omega
       rw[←HINW.out.cell gb _ hgb,←hin.cell gb _ (Nat.lt_of_lt_of_le hgb HINW.out.siz)] at hyc
       have hgl:gb<wo.heap.size:=Nat.lt_of_lt_of_le hgb (Nat.le_trans HINW.out.siz hin.siz)
       have HYI:=Lib.hid ((hyI.call HINW.out.bel).call hin.bel)
       have HGO:=Lib.hid hgo
       have HIN:=Lib.hid hin
       have HOWN:=Lib.hid hown
       have HMOV:=Lib.hid hmov
       have hselfo:=In.self wo
       have HBO:=Lib.hid (HBV.out.call hin.bel)
       clear hl hL hyI hgo hmem hin hown hmov hjl
       go_wp2_with fail
       clear hyc hgl
       go_loopw [16,67] (fun v16 v67 wi=>∃ c:Nat,c≤L∧v67=.int .i64 c∧In wo.heap.size wo wi∧wi.ownsRow wo.heap.size 3 1 v16 c (icl ((places oo l).take c))) (fun _ v67 _=>L - (RowKit.intOf v67).toNat)
       case atStart=>exact⟨0,Nat.zero_le _,rfl,hselfo,World.ownsRow_nil _ _ _ _⟩
       case round=>
        clear hselfo
        rename World=>wi
        obtain⟨c,hc,rfl,hin,hown⟩:=hrel
        by_cases hcL:c<L
        ·have cI:(c:Int)<L:=by omega
         have cn0:(0:Int)≤c:=by omega
         have cw:IntKind.i64.wrap ((c:Int)+1)=((c+1:Nat):Int):=IntWalk.i64_in _ (by omega)
         have hcl:c<l.length:=by rw[←HL.out];exact hcL
         obtain⟨pb,po,rfl,hpb,hpc⟩:=(HYI.out.call hin.bel) c (by rw[zl_length];exact hcl)
         rw[zl_getD hcl] at hpc
         have hm:=HGO.out _ (getD_in hcl)
         have hpn:l.getD c 0<n:=HS.out.lt (.inr hm)
         have hpl:=plL_get (n:=n) hpn hm
         have htk:(places oo l).take (c+1)=(places oo l).take c ++ [oo.idxOf (l.getD c 0)]:=by
          rw[←take_snoc0 (places oo l) (by rw[places_length];exact hcl)]
          congr 2
          simp[places,List.getD_eq_getElem?_getD,List.getElem?_eq_getElem hcl]
         obtain⟨x,hx⟩:∃ x,x=l.getD c 0:=⟨_,rfl⟩
         rw[←hx] at hpc hpn hpl htk
         obtain⟨y,hy⟩:∃ y,y=oo.idxOf x:=⟨_,rfl⟩
         rw[←hy] at hpl htk
         have xI:(x:Int)<n:=by omega
         have xn0:(0:Int)≤x:=by omega
         have hq9:=HBO.out.call hin.bel
         rw[HO.out] at hq9
         have d0:=(hq9.cell x).trans hpl
         have hql:=hq9.lt
         have HTK:=Lib.hid htk
         have HOWN:=Lib.hid hown
         have HIN:=Lib.hid hin
         have hsz:=hin.siz
         clear hx hy hm hpn hpl htk hown hin hq9 hcl
         ((go_wp2_with (at_builtin;go_loud (refine wpList_append_own _ rfl (.tmp 71) (.tmp 76) 22 rfl wo.heap.size 3 i0 (.int .i64 0) 1 8 Tryz.underlying22 hi0 hi1 hi2 hi3 rfl (by decide) u16 c (icl ((places oo l).take c)) rfl (HOWN.out.alloc _) ⟨wi.heap.size,0,none⟩ 1 1 [.int .i64 ((y:Int))] rfl rfl ?p1 ?p2 ?p3 ?p4 ?p5 ?_)));(try (case p1=>(intro j u hj;rw[Addr.add_lit,Nat.zero_add,(Bx.new_at wi #[.int .i64 ((y:Int))] 3 rfl).cell j];exact hj)));(try (case p2=>(first | rfl |(intro u hu;simp only[List.mem_cons,List.not_mem_nil,or_false] at hu;subst hu;rfl))));(try (case p3=>(simp only[maxLen];omega)));(try (case p4=>omega));(try (case p5=>(first | omega |(rw[World.size_alloc];omega))));(intro v' w4 hown4 hgr _);(have hin4:In wo.heap.size wo w4:=by(have h5:=HIN.out.alloc (.cells #[.int .i64 ((y:Int))] 3);exact⟨h5.bel.grown hgr h5.siz (fun k h=>(World.ownsRow.lt HOWN.out k h).1),Nat.le_trans h5.siz hgr.size⟩));(have HR4:Hid (w4.ownsRow wo.heap.size 3 1 v' (c+1) (icl (((places oo l).take c) ++ [y]))):=Lib.hid (by((have e1:(((y:Nat)):Int)=(y:Int):=(by first | rfl | omega));(have e:icl (((places oo l).take c) ++ [y])=icl ((places oo l).take c) ++ [.int .i64 ((y:Int))]:=(by rw[←e1];simp[icl]));rw[e];exact hown4)));(have HIN4:=Lib.hid hin4);(obtain⟨g9,c9,rfl⟩:∃ g9 c9,v'=.slice (some ⟨g9,0,none⟩) (c+1) c9:=by exact owns_cons hown4);clear hown4 hgr hin4 HOWN HIN)
         have HR5:=HR4.out
         rw[←HTK.out] at HR5
         have HR6:=Lib.hid HR5
         clear HR5 hsz
         go_wp2_with fail
         exact⟨⟨c+1,by omega,by go_num,HIN4.out,HR6.out⟩,by simp[RowKit.intOf];omega⟩
        ·obtain rfl:c=L:=by omega
         have cI:¬ (c:Int)<c:=by omega
         have hpl9:(places oo l).length=c:=by rw[places_length];exact HL.out.symm
         rw[List.take_of_length_le (by omega)] at hown
         obtain⟨ma,mc,hme,_⟩:=pivs_ints (l:=places oo l) (by rw[hpl9];exact hown)
         rw[hpl9] at hme
         subst hme
         have HOW2:Hid (wi.ownsRow 0 3 1 (.slice ma c mc) (gs.getD j []).length (icl (places oo (gs.getD j [])))):=Lib.hid (by rw[←HJ.out,←HL.out];exact owns_low hown (Nat.zero_le _))
         have HO13:=Lib.hid (ownsRow_bel HOWN.out hin.bel)
         have HMV2:=Lib.hid (HMOV.out.call hin.bel)
         have HIN2:=Lib.hid (HIN.out.call hin.bel)
         have hsz:=HIN2.out.siz
         clear hown hin hpl9
         go_wp2_with (at_builtin;go_loud (refine wpList_append_own _ rfl (.tmp 79) (.tmp 81) 46 rfl wb.heap.size 22 j0 (.slice none 0 0) 1 24 Tryz.underlying46 hj0 hj1 hj2 hj3 rfl (by decide) u13 j xs rfl (HO13.out.alloc _) ⟨wi.heap.size,0,none⟩ 1 1 [.slice ma c mc] rfl rfl ?r1 ?r2 ?r3 ?r4 ?r5 ?_))
         try case r1=>intro t u ht;rw[Addr.add_lit,Nat.zero_add,(Bx.new_at wi #[.slice ma c mc] 22 rfl).cell t];exact ht
         try case r2=>(first | rfl |(intro u hu;simp only[List.mem_cons,List.not_mem_nil,or_false] at hu;subst hu;rfl))
         try case r3=>simp only[maxLen];omega
         try case r4=>omega
         try case r5=>(first | omega |(rw[World.size_alloc];omega))
         intro v' w9 hown9 hgr _
         have hin9:In wb.heap.size wb w9:=by
          have h5:=HIN2.out.alloc (.cells #[.slice ma c mc] 22)
          exact⟨h5.bel.grown hgr h5.siz (fun k h=>(World.ownsRow.lt HO13.out k h).1),Nat.le_trans h5.siz hgr.size⟩
         have H3:=Lib.hid (HMV2.out.snoc hxl HOW2.out HO13.out hgr)
         have H1:=Lib.hid hin9
         have H2:=Lib.hid hown9
         have HXL:Hid ((xs ++ [Value.slice ma c mc]).length=j+1):=Lib.hid (by rw[List.length_append,hxl];rfl)
         obtain⟨g9,c9,rfl⟩:∃ g9 c9,v'=.slice (some ⟨g9,0,none⟩) (j+1) c9:=owns_cons hown9
         clear hown9 hgr hin9 HO13 HIN2 hsz
         go_wp2_with fail
         exact⟨⟨j+1,_,by omega,by go_num,H1.out,H2.out,HXL.out,H3.out⟩,by simp[RowKit.intOf];omega⟩
      ·obtain rfl:k=j:=by omega
       have jI:¬ (k:Int)<k:=by omega
       obtain⟨va,vc,rfl,hvc⟩:=owns_cap hown
       have hgs:=moved_gs (oo:=oo) (gs:=gs) (by rw[HKL.out];exact hown) (by rw[HKL.out];exact hxl) (by rw[HKL.out];exact hmov)
       clear hown hmov hxl
       rename_i ynend0_ ynend1_ ynend2_ ynend3_ ynend4_ ynend5_ ynend6_ ynend7_ ynend8_ ynend9_
       revert k ih z w n M b hkB hn g gs Y ag N kd HM gc ba bc HB gc' e4 gb goff gx gxc hgb HC ynend0_ ynend1_ ynend2_ hgcap oo A HS HA HCAP HY1 HNZ HSZ HCZ HYZ HG2 HG3 HOO HZ1 HZM HBZ HKL HLEN hk1 hkA X w1 k0 ynend3_ w2 w3 p a0 c0 a1 c1 g00 n00 g01 n01 g10 n10 g11 n11 gi ni xp np kp HSP HNS i0 hi0 hi1 hi2 hi3 j0 hj0 hj1 hj2 hj3 HI1 fc HF ynend4_ q HQ w4 e3 wb u11 u12 u49 u50 u51 u52 u53 u54 u55 u56 u57 t HO hO16 ht htO HSPB HINW HVB HBV ynend5_ ynend6_ ynend7_ ynend8_ ynend9_ u58 o9 ho9 tI wo u15 u16 u18 u62 u63 u64 u65 u66 u67 u68 u69 u70 u71 u72 u73 u74 u75 u76 u77 u78 u79 u80 u81 u82 u83 xs hin hj hjk jI va vc hvc hgs
       exact Kcut.out
 ·have HNS:=Lib.hid hns
  clear hns
  refine hK _ _ (fun _=>hind) ?_
  clear hK K
  (repeat (apply mixT_take;(focus rfl);(focus rfl);(focus (intro w' hw';have hc':=hw'.cell;go_simp;exact rfl));refine tput ?_))
  (apply mixT_run;(focus rfl);(focus rfl);intro K hK;go_simp)
  refine hK _ _ (fun _=>hind) ?_
  clear hK K
  (apply mixT_run;(focus rfl);(focus rfl);intro K hK;go_simp)
  refine hK _ _ (fun h=>absurd h (by decide)) ?_
  clear hK K
  refine mixT_done ?_
  have hbel:=hin.bel
  go_wp2_with fail
  exact bodyPost_ret (v:=.tuple #[.slice none 0 0,.int .i64 6]) (by simp[results,Tryz.results55,go_sem]) rfl ⟨.inr ⟨fun h=>HNS.out h.1,rfl⟩,hbel⟩
 ⟩
set_option maxRecDepth 100000 in
set_option maxHeartbeats 40000000 in
theorem nest_step_q2:nest_step_q1.1:=by
 intro k ih z w n M b hkB hn g gs Y ag N kd HM gc ba bc HB gc' e4 gb goff gx gxc hgb HC ynend0_ ynend1_ ynend2_ hgcap oo A HS HA HCAP HY1 HNZ HSZ HCZ HYZ HG2 HG3 HOO HZ1 HZM HBZ HKL HLEN hk1 hkA X w1 k0 ynend3_ w2 w3 p a0 c0 a1 c1 g00 n00 g01 n01 g10 n10 g11 n11 gi ni xp np kp HSP HNS i0 hi0 hi1 hi2 hi3 j0 hj0 hj1 hj2 hj3 HI1 fc HF ynend4_ q HQ w4 e3 wb u11 u12 u49 u50 u51 u52 u53 u54 u55 u56 u57 t HO hO16 ht htO HSPB HINW HVB HBV ynend5_ ynend6_ ynend7_ ynend8_ ynend9_ u58 o9 ho9 tI wo u15 u16 u18 u62 u63 u64 u65 u66 u67 u68 u69 u70 u71 u72 u73 u74 u75 u76 u77 u78 u79 u80 u81 u82 u83 xs hin hj hjk jI va vc hvc hgs
 obtain rfl:=HA.out
 obtain rfl:=HO.out
 have hlo:∀ i∈oo,i<n:=fun i h=>HS.out.lt (.inr h)
 have hgi:∀ i∈g,i<n:=fun i h=>HS.out.lt (.inl h)
 have hz:=HZ1.out
 have hp:=pz_le (a:=g.length) hz
 obtain⟨hc,hc2,hc3⟩:=HCAP.out HNS.out
 have hlen:=HLEN.out
 have cm:=fun W (h:In wb.heap.size wb W)=>scompl_any (j:=z) (l:=pz g.length z) W _ g oo M _ (HSPB.out.call h.bel) (by omega) (sub_szk HZM.out hlo hlo) (prod_szk hz HZM.out hgi hlo) (by omega)
 have cv:=fun W (h:In wb.heap.size wb W)=>scond_any W _ _ n g oo M (invM g.length (sub M g g)) b (HSPB.out.call h.bel) (HVB.out.call h.bel) hn hgi hlo (by omega) (by omega) hz HZM.out HBZ.out (invM_szk hz (sub_szk HZM.out hgi hgi)) (by omega)
 have ci:=fun W d v (h1:MatS W d oo.length oo.length (schur M g oo (invM g.length (sub M g g)))) (h2:GsAt W (.slice va k vc) ((gs.map (places oo)).map zl)) (h3:VecAt W v (vl oo.length (condV M g oo (invM g.length (sub M g g)) b)))=>ih (gs.map (places oo)) (gz g.length z) W d (.slice va k vc) v oo.length (schur M g oo (invM g.length (sub M g g))) (condV M g oo (invM g.length (sub M g g)) b) (by simpa using HKL.out) (by omega) h1 h2 ⟨_,_,_,rfl,hvc⟩ HG3.out h3 (by omega) (Nat.le_trans hz (z_le_gz _ _)) HSZ.out HCZ.out hc2
 have ce:=fun W d hok (h:In wb.heap.size wb W) (h2:VecAt W d (vl oo.length (nestV k (gs.map (places oo)) oo.length (schur M g oo (invM g.length (sub M g g))) (condV M g oo (invM g.length (sub M g g)) b))))=>sext_any (yz:=Y) W _ _ _ n g oo M (invM g.length (sub M g g)) b _ (HSPB.out.call h.bel) (HVB.out.call h.bel) h2 hn HS.out hz HY1.out HZM.out HBZ.out (invM_szk hz (sub_szk HZM.out hgi hgi)) HYZ.out (hc3 hok).1 (hc3 hok).2
 obtain⟨S,hS⟩:∃ S,S=schur M g oo (invM g.length (sub M g g)):=⟨_,rfl⟩
 obtain⟨T,hT⟩:∃ T,T=condV M g oo (invM g.length (sub M g g)) b:=⟨_,rfl⟩
 rw[←hS] at cm
 rw[←hT] at cv
 rw[←hS,←hT] at ci ce
 have HST:=Lib.hid hS
 have HT:=Lib.hid hT
 clear hlo hgi hp hc hc2 hc3 hlen hS hT hz
 go_wp2_with fail
 ((((with_reducible refine(cm _ hin).mono ?_)));(rintro e w5 ⟨⟨d,rfl,hd⟩,hb⟩);clear cm;replace hin:=hin.call hb;replace hgs:=hgs.call hb;clear hb)
 (go_wp2_with fail;(((with_reducible refine(cv _ hin).mono ?_)));(rintro e w6 ⟨⟨v,rfl,hv⟩,hb⟩);clear cv;replace hin:=hin.call hb;replace hgs:=hgs.call hb;replace hd:=hd.call hb;clear hb)
 (go_wp2_with fail;(((with_reducible refine(ci _ _ _ hd hgs hv).mono ?_)));(rintro e w7 ⟨hI,hb⟩);clear ci;replace hin:=hin.call hb;replace hgs:=hgs.call hb;replace hd:=hd.call hb;replace hv:=hv.call hb;clear hb)
 rcases hI with ⟨hns,y,rfl,hy⟩|⟨hns,rfl⟩
 ·have HNS2:=Lib.hid hns
  clear hns
  (go_wp2_with fail;(((with_reducible refine(ce _ _ HNS2.out hin hy).mono ?_)));(rintro e w8 ⟨⟨x,rfl,hx⟩,hb⟩);clear ce;replace hin:=hin.call hb;replace hgs:=hgs.call hb;replace hd:=hd.call hb;replace hv:=hv.call hb;clear hb)
  obtain⟨xa,xk,hxe⟩:=hx.shape
  rw[vl_length] at hxe
  subst hxe
  have H1:=Lib.hid hx
  have hbel:=(HINW.out.call hin.bel).bel
  clear hx hd hv hy
  go_wp2_with fail
  exact bodyPost_ret (v:=.tuple #[.slice xa n xk,.int .i64 0]) (by simp[results,Tryz.results55,go_sem]) rfl ⟨.inl ⟨⟨HNS.out,by rw[←HOO.out,←HST.out];exact HNS2.out⟩,_,rfl,by unfold nestV;rw[←HOO.out,←HST.out,←HT.out];exact H1.out⟩,hbel⟩
 ·have HNS2:=Lib.hid hns
  have hbel:=(HINW.out.call hin.bel).bel
  clear hns hd hv
  go_wp2_with fail
  exact bodyPost_ret (v:=.tuple #[.slice none 0 0,.int .i64 6]) (by simp[results,Tryz.results55,go_sem]) rfl ⟨.inr ⟨fun h=>HNS2.out (by have h2:=h.2;rw[←HOO.out,←HST.out] at h2;exact h2),rfl⟩,hbel⟩
set_option maxRecDepth 100000 in
set_option maxHeartbeats 40000000 in
theorem nest_step (k:Nat) (ih:NestAll k) :
  NestAll (k+1):=(nest_step_q1.2 nest_step_q2) k ih
theorem snested_any:∀ k,NestAll k
 | 0=>nest_zero
 | k+1=>nest_step k (snested_any k)
end Gus
end
