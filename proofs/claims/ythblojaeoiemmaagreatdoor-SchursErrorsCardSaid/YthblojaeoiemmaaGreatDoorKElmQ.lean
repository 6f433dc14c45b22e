/- Proved here: parts of the proof: KElm KUat KEla KElb. Conditions: those that each theorem states. -/
import Derived.Test.YthblojaeoiemmaaGreatDoorKCgbQ
section
namespace Gus
abbrev Mx:=Nat→Nat→Rat
theorem rdiv_self {a:Rat} (h:a≠0):a / a=1:=by rw[Rat.div_def,Rat.mul_inv_cancel _ h]
def rowSwap (M:Mx) (i t:Nat):Mx:=fun r c=>if r=i then M t c else if r=t then M i c else M r c
def rowClear (M:Mx) (t k:Nat):Mx:=fun r c=>if r=t then M t c / M t k else M r c - M r k*(M t c / M t k)
def pivF (M:Mx) (k:Nat):Nat→Nat→Option Nat
 | 0,_=>none
 | d+1,i=>if M i k=0 then pivF M k d (i+1) else some i
theorem pivF_none {M:Mx} {k:Nat}:∀ {d i:Nat},pivF M k d i=none→∀ r,i≤r→r<i+d→M r k=0
 | 0,i,_,r,h1,h2=>by omega
 | d+1,i,h,r,h1,h2=>by
  unfold pivF at h
  by_cases e:M i k=0
  ·rw[if_pos e] at h
   by_cases hr:r=i
   ·subst hr;exact e
   ·exact pivF_none h r (by omega) (by omega)
  ·rw[if_neg e] at h;cases h
theorem pivF_some {M:Mx} {k:Nat}:∀ {d i p:Nat},pivF M k d i=some p→i≤p∧p<i+d∧M p k≠0∧∀ r,i≤r→r<p→M r k=0
 | 0,i,p,h=>by cases h
 | d+1,i,p,h=>by
  unfold pivF at h
  by_cases e:M i k=0
  ·rw[if_pos e] at h
   obtain⟨h1,h2,h3,h4⟩:=pivF_some h
   refine⟨by omega,by omega,h3,fun r hr hp=>?_⟩
   by_cases hr2:r=i
   ·subst hr2;exact e
   ·exact h4 r (by omega) hp
  ·rw[if_neg e] at h
   injection h with h
   subst h
   exact⟨Nat.le_refl _,by omega,e,fun r h1 h2=>by omega⟩
structure El where
 M:Mx
 piv:List Nat
 det:Rat
def elStep (R:Nat) (s:El) (k:Nat):El:=
 match pivF s.M k (R - s.piv.length) s.piv.length with
 | none=>s
 | some i=>⟨rowClear (rowSwap s.M i s.piv.length) s.piv.length k,s.piv ++ [k],(if i=s.piv.length then s.det else -s.det)*rowSwap s.M i s.piv.length s.piv.length k⟩
def elim (R:Nat) (M:Mx):Nat→El
 | 0=>⟨M,[],1⟩
 | k+1=>elStep R (elim R M k) k
def Ker (R m:Nat) (M:Mx) (y:Nat→Rat):Prop:=∀ r,r<R→sm (fun c=>M r c*y c) m=0
theorem ker_swap {R m i t:Nat} {M:Mx} {y:Nat→Rat} (hi:i<R) (ht:t<R):Ker R m (rowSwap M i t) y↔Ker R m M y:=by
 have key:∀ M:Mx,Ker R m M y→Ker R m (rowSwap M i t) y:=fun M h r hr=>by
  unfold rowSwap
  by_cases h1:r=i
  ·simp only[if_pos h1];exact h t ht
  ·simp only[if_neg h1]
   by_cases h2:r=t
   ·simp only[if_pos h2];exact h i hi
   ·simp only[if_neg h2];exact h r hr
 refine⟨fun h=>?_,key M⟩
 have h2:=key _ h
 have e:rowSwap (rowSwap M i t) i t=M:=by
  funext r c
  unfold rowSwap
  by_cases h1:r=i
  ·subst h1
   by_cases h3:t=r
   ·subst h3;simp
   ·simp[h3]
  ·by_cases h3:r=t
   ·subst h3;simp[h1]
   ·simp[h1,h3]
 rwa [e] at h2
theorem ker_clear {R m t k:Nat} {M:Mx} {y:Nat→Rat} (ht:t<R) (hp:M t k≠0):Ker R m (rowClear M t k) y↔Ker R m M y:=by
 have e1:sm (fun c=>rowClear M t k t c*y c) m=(1 / M t k)*sm (fun c=>M t c*y c) m:=by
  rw[←sm_mul]
  refine sm_congr m fun c _=>?_
  unfold rowClear;rw[if_pos rfl];grind
 have e2:∀ r,r≠t→sm (fun c=>rowClear M t k r c*y c) m=sm (fun c=>M r c*y c) m+-(M r k / M t k)*sm (fun c=>M t c*y c) m:=fun r hr=>by
  rw[←sm_mul,←sm_add]
  refine sm_congr m fun c _=>?_
  unfold rowClear;rw[if_neg hr];grind
 constructor
 ·intro h
  have h1:=h t ht
  rw[e1] at h1
  have h2:sm (fun c=>M t c*y c) m=0:=by
   have:M t k*(1 / M t k*sm (fun c=>M t c*y c) m)=0:=by rw[h1,Rat.mul_zero]
   grind
  intro r hr
  by_cases e:r=t
  ·subst e;exact h2
  ·have h3:=h r hr
   rw[e2 r e,h2] at h3
   grind
 ·intro h r hr
  by_cases e:r=t
  ·subst e;rw[e1,h r ht];grind
  ·rw[e2 r e,h r hr,h t ht];grind
structure Red (R m k:Nat) (M0:Mx) (s:El):Prop where
 len:s.piv.length≤R
 asc:s.piv.Pairwise (·<·)
 lt:∀ p∈s.piv,p<k
 one:∀ p r,p<s.piv.length→r<R→s.M r (s.piv.getD p 0)=if r=p then 1 else 0
 zero:∀ r c,s.piv.length≤r→r<R→c<k→s.M r c=0
 left:∀ p c,p<s.piv.length→c<s.piv.getD p 0→s.M p c=0
 ker:∀ y,Ker R m s.M y↔Ker R m M0 y
theorem getD_snoc_lt {l:List Nat} {k p:Nat} (h:p<l.length):(l ++ [k]).getD p 0=l.getD p 0:=by
 simp only[List.getD_eq_getElem?_getD,List.getElem?_append_left h]
theorem getD_snoc_eq {l:List Nat} {k:Nat}:(l ++ [k]).getD l.length 0=k:=by
 simp[List.getD_eq_getElem?_getD]
theorem getD_mem {l:List Nat} {p:Nat} (h:p<l.length):l.getD p 0∈l:=by
 rw[List.getD_eq_getElem?_getD,List.getElem?_eq_getElem h];exact List.getElem_mem _
theorem elim_red (R m:Nat) (M:Mx):∀ k,Red R m k M (elim R M k)
 | 0=>⟨Nat.zero_le _,.nil,fun p h=>(nomatch h),fun p r h=>absurd h (Nat.not_lt_zero _),fun r c _ _ h=>absurd h (Nat.not_lt_zero _),fun p c h=>absurd h (Nat.not_lt_zero _),fun y=>Iff.rfl⟩
 | k+1=>by
  have ih:=elim_red R m M k
  show Red R m (k+1) M (elStep R (elim R M k) k)
  generalize elim R M k=s at *
  obtain⟨N,pv,dt⟩:=s
  obtain⟨hl,ha,hlt,h1,h0,hle,hk⟩:=ih
  simp only at hl ha hlt h1 h0 hle hk
  unfold elStep
  simp only
  cases hp:pivF N k (R - pv.length) pv.length with
  | none=>
   have hz:=pivF_none hp
   refine⟨hl,ha,fun p h=>by have:=hlt p h;omega,h1,fun r c hr hR hc=>?_,hle,hk⟩
   by_cases e:c=k
   ·subst e;exact hz r hr (by omega)
   ·exact h0 r c hr hR (by omega)
  | some i=>
   obtain⟨hi1,hi2,hi3,hi4⟩:=pivF_some hp
   have hiR:i<R:=by omega
   have htR:pv.length<R:=by omega
   have hpt:rowSwap N i pv.length pv.length k=N i k:=by
    unfold rowSwap
    by_cases e:pv.length=i
    ·rw[if_pos e,e]
    ·rw[if_neg e,if_pos rfl]
   have hpv:rowSwap N i pv.length pv.length k≠0:=by rw[hpt];exact hi3
   have hsw:∀ r c,r<pv.length→rowSwap N i pv.length r c=N r c:=fun r c hr=>by
    unfold rowSwap;rw[if_neg (by omega),if_neg (by omega)]
   have hs0:∀ r c,pv.length≤r→r<R→c<k→rowSwap N i pv.length r c=0:=fun r c hr hR hc=>by
    unfold rowSwap
    split
    ·exact h0 _ _ (Nat.le_refl _) htR hc
    ·split
     ·exact h0 _ _ hi1 hiR hc
     ·exact h0 _ _ hr hR hc
   refine⟨by simp only[List.length_append,List.length_singleton];omega, ?_,fun p h=>?_,fun p r h hr=>?_,fun r c hr hR hc=>?_,fun p c h hc=>?_,fun y=>?_⟩
   ·rw[List.pairwise_append]
    exact⟨ha,List.pairwise_singleton _ _,fun a h b hb=>by
     simp only[List.mem_singleton] at hb;subst hb;exact hlt a h⟩
   ·rw[List.mem_append,List.mem_singleton] at h
    rcases h with h | rfl
    ·have:=hlt p h;omega
    ·omega
   ·rw[List.length_append,List.length_singleton] at h
    show rowClear (rowSwap N i pv.length) pv.length k r ((pv ++ [k]).getD p 0)=_
    by_cases hpe:p=pv.length
    ·subst hpe
     rw[getD_snoc_eq]
     unfold rowClear
     by_cases e:r=pv.length
     ·rw[if_pos e,if_pos e];exact rdiv_self hpv
     ·rw[if_neg e,if_neg e,rdiv_self hpv];grind
    ·have hpl:p<pv.length:=by omega
     rw[getD_snoc_lt hpl]
     have hc:=hlt _ (getD_mem hpl)
     have ht0:=hs0 pv.length (pv.getD p 0) (Nat.le_refl _) htR hc
     unfold rowClear
     by_cases e:r=pv.length
     ·rw[if_pos e,if_neg (by omega),ht0];grind
     ·rw[if_neg e,ht0]
      by_cases hrl:r<pv.length
      ·rw[hsw r _ hrl,h1 p r hpl hr];grind
      ·rw[hs0 r _ (by omega) hr hc,if_neg (by omega)];grind
   ·rw[List.length_append,List.length_singleton] at hr
    show rowClear (rowSwap N i pv.length) pv.length k r c=0
    unfold rowClear
    rw[if_neg (by omega)]
    by_cases e:c=k
    ·subst e
     rw[rdiv_self hpv];grind
    ·rw[hs0 r c (by omega) hR (by omega),hs0 pv.length c (Nat.le_refl _) htR (by omega)];grind
   ·rw[List.length_append,List.length_singleton] at h
    show rowClear (rowSwap N i pv.length) pv.length k p c=0
    by_cases hpe:p=pv.length
    ·subst hpe
     rw[getD_snoc_eq] at hc
     unfold rowClear
     rw[if_pos rfl,hs0 _ _ (Nat.le_refl _) htR hc];grind
    ·have hpl:p<pv.length:=by omega
     rw[getD_snoc_lt hpl] at hc
     have hck:=hlt _ (getD_mem hpl)
     unfold rowClear
     rw[if_neg hpe,hsw p c hpl,hle p c hpl hc,hs0 pv.length c (Nat.le_refl _) htR (by omega)];grind
   ·show Ker R m (rowClear (rowSwap N i pv.length) pv.length k) y↔_
    rw[ker_clear htR hpv,ker_swap hiR htR];exact hk y
theorem range_getD {n p:Nat} (h:p<n):(List.range n).getD p 0=p:=by
 rw[List.getD_eq_getElem?_getD,List.getElem?_range h];rfl
theorem elim_range {R n:Nat} {M:Mx} (hR:n≤R) (h:∀ y,Ker R n M y→∀ i,i<n→y i=0):∀ k,k≤n→(elim R M k).piv=List.range k
 | 0,_=>rfl
 | k+1,hk=>by
  have ih:=elim_range hR h k (by omega)
  have hr:=elim_red R n M k
  show(elStep R (elim R M k) k).piv=_
  generalize elim R M k=s at *
  unfold elStep
  cases hp:pivF s.M k (R - s.piv.length) s.piv.length with
  | some i=>simp only;rw[ih,List.range_succ]
  | none=>
   exfalso
   have hl:s.piv.length=k:=by rw[ih,List.length_range]
   have hz:=pivF_none hp
   have h1:=h (fun c=>if c=k then 1 else if c<k then - s.M c k else 0) ((hr.ker _).1 fun r hrR=>by
    by_cases hrk:r<k
    ·have e:sm (fun c=>s.M r c*(if c=k then 1 else if c<k then - s.M c k else 0)) n=sm (fun c=>(if c=r then - s.M r k else 0)+(if c=k then s.M r k else 0)) n:=sm_congr n fun c hc=>by
      by_cases h1:c=k
      ·subst h1;rw[if_pos rfl,if_neg (by omega),if_pos rfl];grind
      ·rw[if_neg h1,if_neg h1]
       by_cases h2:c<k
       ·have h3:=hr.one c r (by omega) hrR
        rw[ih,range_getD h2] at h3
        rw[if_pos h2,h3]
        by_cases h4:r=c
        ·subst h4;rw[if_pos rfl,if_pos rfl];grind
        ·rw[if_neg h4,if_neg (Ne.symm h4)];grind
       ·rw[if_neg h2,if_neg (by omega)];grind
     rw[e,sm_add,sm_one (k:=r) (by omega) (fun i _ hi=>if_neg hi),if_pos rfl,sm_one (k:=k) (by omega) (fun i _ hi=>if_neg hi),if_pos rfl]
     grind
    ·rw[sm_congr n (G:=fun _=>0) fun c hc=>?_,sm_zero]
     by_cases h1:c=k
     ·subst h1;rw[hz r (by omega) (by omega)];grind
     ·rw[if_neg h1]
      by_cases h2:c<k
      ·rw[hr.zero r c (by omega) hrR h2];grind
      ·rw[if_neg h2];grind) k (by omega)
   rw[if_pos rfl] at h1
   exact absurd h1 (by decide +kernel)
def aug (n:Nat) (A:Mx) (b:Nat→Rat):Mx:=fun r c=>if c<n then A r c else b r
theorem solve_full {n:Nat} {A:Mx} {b:Nat→Rat} (h:∀ y,Ker n n A y→∀ i,i<n→y i=0) :
  (elim n (aug n A b) n).piv=List.range n∧∀ r,r<n→sm (fun c=>A r c*(elim n (aug n A b) n).M c n) n=b r:=by
 have e0:∀ y,Ker n n (aug n A b) y↔Ker n n A y:=fun y=>by
  have e:∀ r,sm (fun c=>aug n A b r c*y c) n=sm (fun c=>A r c*y c) n:=fun r=>sm_congr n fun c hc=>by unfold aug;rw[if_pos hc]
  exact⟨fun h r hr=>by rw[←e];exact h r hr,fun h r hr=>by rw[e];exact h r hr⟩
 have hp:=elim_range (R:=n) (Nat.le_refl n) (M:=aug n A b) (fun y hy=>h y ((e0 y).1 hy)) n (Nat.le_refl _)
 refine⟨hp, ?_⟩
 have hr:=elim_red n (n+1) (aug n A b) n
 generalize elim n (aug n A b) n=s at *
 have h1:=(hr.ker (fun c=>if c<n then s.M c n else -1)).1 fun r hrn=>by
  rw[sm,sm_congr n (G:=fun c=>if c=r then s.M r n else 0) fun c hc=>?_,sm_one (k:=r) hrn (fun i _ hi=>if_neg hi),if_pos rfl]
  ·show s.M r n+s.M r n*(if n<n then s.M n n else -1)=0
   rw[if_neg (Nat.lt_irrefl n)];grind
  ·show s.M r c*(if c<n then s.M c n else -1)=_
   rw[if_pos hc]
   have h3:=hr.one c r (by rw[hp,List.length_range];exact hc) hrn
   rw[hp,range_getD hc] at h3
   rw[h3]
   by_cases h4:r=c
   ·subst h4;rw[if_pos rfl,if_pos rfl];grind
   ·rw[if_neg h4,if_neg (Ne.symm h4)];grind
 intro r hrn
 have h2:=h1 r hrn
 rw[sm,sm_congr n (G:=fun c=>A r c*s.M c n) fun c hc=>by
  show(if c<n then A r c else b r)*(if c<n then s.M c n else -1)=_
  rw[if_pos hc,if_pos hc]] at h2
 have h3:sm (fun c=>A r c*s.M c n) n+(if n<n then A r n else b r)*(if n<n then s.M n n else -1)=0:=h2
 rw[if_neg (Nat.lt_irrefl n),if_neg (Nat.lt_irrefl n)] at h3
 grind
end Gus
end
section
namespace Gus
open Go Go.RowKit Go.Proofs
def U8At (w:World) (a:Option Addr) (d:List Nat):Prop:=∀ i,i<d.length→∃ b off,a=some ⟨b,off,none⟩∧b<w.heap.size∧w.cell? ⟨b,off+i,none⟩=some (.int .u8 ((d.getD i 0:Nat):Int))
theorem U8At.call {w w':World} {a:Option Addr} {d:List Nat} (h:U8At w a d) (hb:Below w.heap.size w w'):U8At w' a d:=fun i hi=>by
 obtain⟨b,off,h1,h2,h3⟩:=h i hi
 exact⟨b,off,h1,Nat.lt_of_lt_of_le h2 hb.size,by rw[hb.cell (p:=⟨b,off+i,none⟩) h2];exact h3⟩
end Gus
end
section
namespace Gus
open Go Go.RowKit Go.Proofs
theorem Bx.ne_type {w:World} {b b':Nat} {T T':TypeId} {cs cs':List Value} (h:Bx w b T cs) (h':Bx w b' T' cs') (hT:T≠T'):¬ b=b':=by
 rintro rfl
 have h6:w.heap[b]?=some (Obj.cells cs.toArray T (0,0)):=h
 have h7:w.heap[b]?=some (Obj.cells cs'.toArray T' (0,0)):=h'
 rw[h6] at h7
 injection h7 with h7
 injection h7 with _ h8
 exact hT h8
theorem Gro.bel {w W:World} (hb:Below w.heap.size w W) (r:Option Nat):w.grownBy W r:=⟨hb.os,hb.tape,hb.output,hb.size,fun k hk _=>hb.block k hk⟩
theorem VBx.eltc {w:World} {g m k:Nat} {F:Nat→Rat} {A1 A4:Int} {A2 A5:ByteArray} {A3:Bool} (h:VBx w g (vl m F)) (hk:k<m) (hq:fcs (F k)=[.int .u64 A1,.string A2,.bool A3,.int .u64 A4,.string A5]) :
  w.cell? ⟨g,k*5,none⟩=some (.int .u64 A1)∧w.cell? ⟨g,k*5+1,none⟩=some (.string A2)∧w.cell? ⟨g,k*5+2,none⟩=some (.bool A3)∧w.cell? ⟨g,k*5+3,none⟩=some (.int .u64 A4)∧w.cell? ⟨g,k*5+4,none⟩=some (.string A5):=by
 have hc:=fun j hj=>(h.cell (k*5+j)).trans (fcl_at (vl m F) k j (by rw[vl_length];exact hk) hj)
 rw[vl_getD F hk,hq] at hc
 exact⟨hc 0 (by decide),hc 1 (by decide),hc 2 (by decide),hc 3 (by decide),hc 4 (by decide)⟩
set_option maxRecDepth 100000 in
set_option maxHeartbeats 1000000 in
theorem clr1_any {i j:Nat} (W:World) (C:Nat) (k:Int) (x p:Rat) (hC:Bx W C 72 (fcs p)) (hp:p≠0) (hx:SzK i x) (hq:SzK j p) (hcap:i+j<17592186044416) :
  Calls Tryz.prog 155 #[.int .i64 k,fracV x,.pointer (some ⟨C,0,none⟩)] W fun e w'=>e=.returned (fracV (x / p))∧Below W.heap.size W w':=by
 have c1:=fdiv_any x p hp hx hq hcap
 have hin:=In.self W
 obtain⟨r,hr⟩:∃ r,r=x / p:=⟨_,rfl⟩
 rw[←hr] at c1 ⊢
 obtain⟨A1,A2,A3,A4,A5,hA,hA'⟩:∃ A1 A2 A3 A4 A5,fracV x=.agg #[.int .u64 A1,.string A2,.bool A3,.int .u64 A4,.string A5]∧fcs x=[.int .u64 A1,.string A2,.bool A3,.int .u64 A4,.string A5]:=⟨_,_,_,_,_,rfl,rfl⟩
 obtain⟨B1,B2,B3,B4,B5,hB,hB'⟩:∃ A1 A2 A3 A4 A5,fracV p=.agg #[.int .u64 A1,.string A2,.bool A3,.int .u64 A4,.string A5]∧fcs p=[.int .u64 A1,.string A2,.bool A3,.int .u64 A4,.string A5]:=⟨_,_,_,_,_,rfl,rfl⟩
 obtain⟨P1,P2,P3,P4,P5,hP,hP'⟩:∃ A1 A2 A3 A4 A5,fracV r=.agg #[.int .u64 A1,.string A2,.bool A3,.int .u64 A4,.string A5]∧fcs r=[.int .u64 A1,.string A2,.bool A3,.int .u64 A4,.string A5]:=⟨_,_,_,_,_,rfl,rfl⟩
 rw[hB'] at hC
 rw[hA,hB,hP] at c1
 rw[hA,hP]
 clear hr hx hq hp hcap hA hB hP hA' hB' hP'
 go_enter Tryz.func155,Tryz.ntmps155
 go_upto_region 1 with fail
 ((obtain⟨X,hXX⟩:∃ z,z=W.heap.size:=⟨_,rfl⟩);(have bV0:=((Bx.new_at W #[.int .u64 A1,.string A2,.bool A3,.int .u64 A4,.string A5] 72 (n:=X) (by simp[hXX])).alloc (.cells #[.int .u64 0,.string ⟨#[]⟩,.bool false,.int .u64 0,.string ⟨#[]⟩] 72)));(have bV1:=(Bx.new_at (W.alloc (.cells #[.int .u64 A1,.string A2,.bool A3,.int .u64 A4,.string A5] 72)) #[.int .u64 0,.string ⟨#[]⟩,.bool false,.int .u64 0,.string ⟨#[]⟩] 72 (n:=X+1) (by simp[hXX])));(have hV:=(((In.self W).alloc (.cells #[.int .u64 A1,.string A2,.bool A3,.int .u64 A4,.string A5] 72)).alloc (.cells #[.int .u64 0,.string ⟨#[]⟩,.bool false,.int .u64 0,.string ⟨#[]⟩] 72)));(replace hC:=((hC.alloc (.cells #[.int .u64 A1,.string A2,.bool A3,.int .u64 A4,.string A5] 72)).alloc (.cells #[.int .u64 0,.string ⟨#[]⟩,.bool false,.int .u64 0,.string ⟨#[]⟩] 72)));(rw[←hXX] at hV ⊢);(have HX:=Lib.hid hXX);clear hXX;(generalize (W.alloc (.cells #[.int .u64 A1,.string A2,.bool A3,.int .u64 A4,.string A5] 72)).alloc (.cells #[.int .u64 0,.string ⟨#[]⟩,.bool false,.int .u64 0,.string ⟨#[]⟩] 72)=V at *))
 rw[HX.out] at hV
 have bX:=bV0
 clear bV0
 (have x0:=bX.c0;have x1:=bX.c1;have x2:=bX.c2;have x3:=bX.c3;have x4:=bX.c4;have xl:=bX.lt)
 (have z0:=hC.c0;have z1:=hC.c1;have z2:=hC.c2;have z3:=hC.c3;have z4:=hC.c4;have zl:=hC.lt)
 (go_wp2_with fail;(((with_reducible refine(c1 _).mono ?_)));rintro e wc1 ⟨rfl,hb⟩;clear x0 x1 x2 x3 x4 xl z0 z1 z2 z3 z4 zl c1;replace hV:=hV.call hb;replace bX:=bX.call hb;replace bV1:=bV1.call hb;replace hC:=hC.call hb;clear hb)
 (have x0:=bX.c0;have x1:=bX.c1;have x2:=bX.c2;have x3:=bX.c3;have x4:=bX.c4;have xl:=bX.lt)
 have hn1:X≠X+1:=by omega
 (clear x0 x1 x2 x3 x4 xl hC;have p0:=bX.c0;have p1:=bX.c1;have p2:=bX.c2;have p3:=bX.c3;have p4:=bX.c4;(have pf0:=bX.frozen 0);(have pf1:=bX.frozen 1);(have pf2:=bX.frozen 2);(have pf3:=bX.frozen 3);(have pf4:=bX.frozen 4);have pl:=bX.lt;(have KS:=Lib.hid (((((bX.set 0 (.int .u64 P1)).set 1 (.string P2)).set 2 (.bool P3)).set 3 (.int .u64 P4)).set 4 (.string P5)));(have KhV:=Lib.hid (((((hV.setCell (p:=⟨X,0,none⟩) (Nat.le_of_eq HX.out.symm) (.int .u64 P1)).setCell (p:=⟨X,1,none⟩) (Nat.le_of_eq HX.out.symm) (.string P2)).setCell (p:=⟨X,2,none⟩) (Nat.le_of_eq HX.out.symm) (.bool P3)).setCell (p:=⟨X,3,none⟩) (Nat.le_of_eq HX.out.symm) (.int .u64 P4)).setCell (p:=⟨X,4,none⟩) (Nat.le_of_eq HX.out.symm) (.string P5)));(have KbV1:=Lib.hid (Bx.other (a:=⟨X,4,none⟩) (Bx.other (a:=⟨X,3,none⟩) (Bx.other (a:=⟨X,2,none⟩) (Bx.other (a:=⟨X,1,none⟩) (Bx.other (a:=⟨X,0,none⟩) bV1 hn1 (.int .u64 P1)) hn1 (.string P2)) hn1 (.bool P3)) hn1 (.int .u64 P4)) hn1 (.string P5)));clear bX hV bV1;(go_upto_region 2 with fail);have bX:=KS.out;simp only[List.set] at bX;have hV:=KhV.out;have bV1:=KbV1.out;clear KS pl KhV KbV1 p0 p1 p2 p3 p4 pf0 pf1 pf2 pf3 pf4;(generalize ((((wc1.setCell ⟨X,0,none⟩ (.int .u64 P1)).setCell ⟨X,1,none⟩ (.string P2)).setCell ⟨X,2,none⟩ (.bool P3)).setCell ⟨X,3,none⟩ (.int .u64 P4)).setCell ⟨X,4,none⟩ (.string P5)=W3 at *))
 have bq:=bV1
 have hin:=hV
 clear bV1 hV
 (have x0:=bX.c0;have x1:=bX.c1;have x2:=bX.c2;have x3:=bX.c3;have x4:=bX.c4;have xl:=bX.lt)
 (have q0:=bq.c0;have q1:=bq.c1;have q2:=bq.c2;have q3:=bq.c3;have q4:=bq.c4;(have f0:=bq.frozen 0);(have f1:=bq.frozen 1);(have f2:=bq.frozen 2);(have f3:=bq.frozen 3);(have f4:=bq.frozen 4);have ql:=bq.lt;(have K1:=Lib.hid ((((((bq.set 0 (.int .u64 P1)).set 1 (.string P2)).set 2 (.bool P3)).set 3 (.int .u64 P4)).set 4 (.string P5))));(have K2:=Lib.hid ((((((hin.setCell (p:=⟨(X+1),0,none⟩) (by first |(simp;done)|(have:=HX.out;simp;omega)) (.int .u64 P1)).setCell (p:=⟨(X+1),1,none⟩) (by first |(simp;done)|(have:=HX.out;simp;omega)) (.string P2)).setCell (p:=⟨(X+1),2,none⟩) (by first |(simp;done)|(have:=HX.out;simp;omega)) (.bool P3)).setCell (p:=⟨(X+1),3,none⟩) (by first |(simp;done)|(have:=HX.out;simp;omega)) (.int .u64 P4)).setCell (p:=⟨(X+1),4,none⟩) (by first |(simp;done)|(have:=HX.out;simp;omega)) (.string P5))));clear bq hin;go_wp2_with fail;have k1:=K1.out;have k2:=K2.out;clear q0 q1 q2 q3 q4 f0 f1 f2 f3 f4 ql K1 K2;(generalize ((((W3.setCell ⟨(X+1),0,none⟩ (.int .u64 P1)).setCell ⟨(X+1),1,none⟩ (.string P2)).setCell ⟨(X+1),2,none⟩ (.bool P3)).setCell ⟨(X+1),3,none⟩ (.int .u64 P4)).setCell ⟨(X+1),4,none⟩ (.string P5)=W5 at *);(have e0:W5.cell? ⟨(X+1),0,none⟩=some (.int .u64 P1):=k1.cell 0);(have e1:W5.cell? ⟨(X+1),1,none⟩=some (.string P2):=k1.cell 1);(have e2:W5.cell? ⟨(X+1),2,none⟩=some (.bool P3):=k1.cell 2);(have e3:W5.cell? ⟨(X+1),3,none⟩=some (.int .u64 P4):=k1.cell 3);(have e4:W5.cell? ⟨(X+1),4,none⟩=some (.string P5):=k1.cell 4);have hz:=k2.bel;(refine bodyPost_ret (v:=.agg #[.int .u64 P1,.string P2,.bool P3,.int .u64 P4,.string P5]) ?_ rfl ⟨rfl,hz⟩);(simp[results,Tryz.results155,go_sem,e0,e1,e2,e3,e4]))
set_option maxRecDepth 100000 in
set_option maxHeartbeats 1000000 in
theorem clr2_any {i j l:Nat} (W:World) (C wb tb p rb g R rc m k t:Nat) (dl cs:List Value) (c x:Rat) (y:Nat→Rat) (hC:Bx W C 72 (fcs c)) (hw:Bx W wb 130 [.pointer (some ⟨p,0,none⟩)]) (ht:Bx W tb 3 [.int .i64 (t:Nat)])
  (hp:Bx W p 136 (.slice (some ⟨rb,0,none⟩) R rc :: dl)) (hr:Bx W rb 31 cs) (htR:t<R) (hct:cs[t]?=some (.slice (some ⟨g,0,none⟩) m m)) (hv:VBx W g (vl m y)) (hk:k<m)
  (hc:SzK i c) (hx:SzK j x) (hy:SzK l (y k)) (hcap:i+j+l+1<17592186044416) :
  Calls Tryz.prog 156 #[.int .i64 k,fracV x,.pointer (some ⟨C,0,none⟩),.pointer (some ⟨wb,0,none⟩),.pointer (some ⟨tb,0,none⟩)] W fun e w'=>e=.returned (fracV (x - c*y k))∧Below W.heap.size W w':=by
 have c1:=fmul_any c (y k) hc hy (by omega)
 have c2:=fsub_any x (c*y k) hx (hc.mul hy) (by omega)
 obtain⟨u,hu⟩:∃ u,u=y k:=⟨_,rfl⟩
 obtain⟨D1,D2,D3,D4,D5,hD,hD'⟩:∃ A1 A2 A3 A4 A5,fracV u=.agg #[.int .u64 A1,.string A2,.bool A3,.int .u64 A4,.string A5]∧fcs u=[.int .u64 A1,.string A2,.bool A3,.int .u64 A4,.string A5]:=⟨_,_,_,_,_,rfl,rfl⟩
 obtain⟨d0,d1,d2,d3,d4⟩:=hv.eltc hk (by rw[←hu];exact hD')
 rw[←hu] at c1 c2 ⊢
 obtain⟨mm,hm⟩:∃ m,m=c*u:=⟨_,rfl⟩
 rw[←hm] at c1 c2 ⊢
 obtain⟨r,hr9⟩:∃ r,r=x - mm:=⟨_,rfl⟩
 rw[←hr9] at c2 ⊢
 obtain⟨P1,P2,P3,P4,P5,hP,hP'⟩:∃ A1 A2 A3 A4 A5,fracV c=.agg #[.int .u64 A1,.string A2,.bool A3,.int .u64 A4,.string A5]∧fcs c=[.int .u64 A1,.string A2,.bool A3,.int .u64 A4,.string A5]:=⟨_,_,_,_,_,rfl,rfl⟩
 obtain⟨B1,B2,B3,B4,B5,hB,hB'⟩:∃ A1 A2 A3 A4 A5,fracV x=.agg #[.int .u64 A1,.string A2,.bool A3,.int .u64 A4,.string A5]∧fcs x=[.int .u64 A1,.string A2,.bool A3,.int .u64 A4,.string A5]:=⟨_,_,_,_,_,rfl,rfl⟩
 obtain⟨M1,M2,M3,M4,M5,hM,hM'⟩:∃ A1 A2 A3 A4 A5,fracV mm=.agg #[.int .u64 A1,.string A2,.bool A3,.int .u64 A4,.string A5]∧fcs mm=[.int .u64 A1,.string A2,.bool A3,.int .u64 A4,.string A5]:=⟨_,_,_,_,_,rfl,rfl⟩
 obtain⟨A1,A2,A3,A4,A5,hA,hA'⟩:∃ A1 A2 A3 A4 A5,fracV r=.agg #[.int .u64 A1,.string A2,.bool A3,.int .u64 A4,.string A5]∧fcs r=[.int .u64 A1,.string A2,.bool A3,.int .u64 A4,.string A5]:=⟨_,_,_,_,_,rfl,rfl⟩
 rw[hP'] at hC
 rw[hP,hD,hM] at c1
 rw[hB,hM,hA] at c2
 rw[hB,hA]
 have htc:W.cell? ⟨rb,t,none⟩=some (.slice (some ⟨g,0,none⟩) m m):=(hr.cell t).trans hct
 have htI:(t:Int)<R:=by omega
 have ht0:(0:Int)≤t:=by omega
 have hkI:(k:Int)<m:=by omega
 have hk0:(0:Int)≤k:=by omega
 have hgl:=hv.lt
 have hrl:=hr.lt
 have hpl:=hp.lt
 have hwl:=hw.lt
 have htl:=ht.lt
 have p0:=hp.c0
 have w0:=hw.c0
 have t0:=ht.c0
 have hin:=In.self W
 clear hu hm hr9 hc hx hy hcap hP hB hD hM hA hP' hB' hM' hA' hD' hct hr hv ht hw hp
 go_enter Tryz.func156,Tryz.ntmps156
 go_upto_region 1 with fail
 ((obtain⟨X,hXX⟩:∃ z,z=W.heap.size:=⟨_,rfl⟩);(have bV0:=((Bx.new_at W #[.int .u64 B1,.string B2,.bool B3,.int .u64 B4,.string B5] 72 (n:=X) (by simp[hXX])).alloc (.cells #[.int .u64 0,.string ⟨#[]⟩,.bool false,.int .u64 0,.string ⟨#[]⟩] 72)));(have bV1:=(Bx.new_at (W.alloc (.cells #[.int .u64 B1,.string B2,.bool B3,.int .u64 B4,.string B5] 72)) #[.int .u64 0,.string ⟨#[]⟩,.bool false,.int .u64 0,.string ⟨#[]⟩] 72 (n:=X+1) (by simp[hXX])));(have hV:=(((In.self W).alloc (.cells #[.int .u64 B1,.string B2,.bool B3,.int .u64 B4,.string B5] 72)).alloc (.cells #[.int .u64 0,.string ⟨#[]⟩,.bool false,.int .u64 0,.string ⟨#[]⟩] 72)));(replace hC:=((hC.alloc (.cells #[.int .u64 B1,.string B2,.bool B3,.int .u64 B4,.string B5] 72)).alloc (.cells #[.int .u64 0,.string ⟨#[]⟩,.bool false,.int .u64 0,.string ⟨#[]⟩] 72)));(rw[←hXX] at hV ⊢);(have HX:=Lib.hid hXX);clear hXX;(generalize (W.alloc (.cells #[.int .u64 B1,.string B2,.bool B3,.int .u64 B4,.string B5] 72)).alloc (.cells #[.int .u64 0,.string ⟨#[]⟩,.bool false,.int .u64 0,.string ⟨#[]⟩] 72)=V at *))
 rw[HX.out] at hV
 have hcc:=hV.cell
 rw[←hcc _ _ hgl] at d0 d1 d2 d3 d4
 rw[←hcc _ _ hrl] at htc
 rw[←hcc _ _ hpl] at p0
 rw[←hcc _ _ hwl] at w0
 rw[←hcc _ _ htl] at t0
 have hsz:=hV.siz
 replace hgl:=Nat.lt_of_lt_of_le hgl hsz
 replace hrl:=Nat.lt_of_lt_of_le hrl hsz
 replace hpl:=Nat.lt_of_lt_of_le hpl hsz
 replace hwl:=Nat.lt_of_lt_of_le hwl hsz
 replace htl:=Nat.lt_of_lt_of_le htl hsz
 clear hcc hsz hin
 have x0:=bV0.c0;have x1:=bV0.c1;have x2:=bV0.c2;have x3:=bV0.c3;have x4:=bV0.c4;have xl:=bV0.lt
 have z0:=hC.c0;have z1:=hC.c1;have z2:=hC.c2;have z3:=hC.c3;have z4:=hC.c4;have zl:=hC.lt
 have h:=In.self V
 have hc:=h.cell
 refine tfw 14 ?_;refine tset ?_;(repeat (first | refine tfs ?_ |((first |((with_reducible refine flow_pure0 (v:=?_) ?_ ?_ ?_ ?_);rotate_left 1;exact trr;exact trf)|((with_reducible refine flow_pureg (v:=?_) (j:=?_) (b:=?_) ?_ ?_ ?_ ?_);rotate_left 3;exact trr;(focus (intro u w1 hw hd;replace hd:=thn hd;simp[yielded,hd];done))));(focus (intro u w1 hw hd;replace hd:=thn hd;have hc':=hw.cell;go_simp;first |(go_at_call 39;((with_reducible refine(c1 _).mono ?_));rintro e w'' ⟨rfl,hb⟩;refine⟨?_,hb⟩;exact rfl)|(go_at_call 88;((with_reducible refine(c2 _).mono ?_));rintro e w'' ⟨rfl,hb⟩;refine⟨?_,hb⟩;exact rfl))))| fail))
 (try clear hc hf h);intro u w' h ha hdi;replace h:=tsz h.ins;replace ha:=tah ha;have hc:=h.cell;have hf:=h.frozen
 (try obtain ha:=ha);(try dsimp only);simp only[ha];clear ha hdi
 have hin:=hV.call h.bel
 have bq:=bV1.call h.bel
 clear hc hf h hV bV0 bV1 hC x0 x1 x2 x3 x4 xl z0 z1 z2 z3 z4 zl d0 d1 d2 d3 d4 htc p0 w0 t0 hgl hrl hpl hwl htl
 (have q0:=bq.c0;have q1:=bq.c1;have q2:=bq.c2;have q3:=bq.c3;have q4:=bq.c4;(have f0:=bq.frozen 0);(have f1:=bq.frozen 1);(have f2:=bq.frozen 2);(have f3:=bq.frozen 3);(have f4:=bq.frozen 4);have ql:=bq.lt;(have K1:=Lib.hid ((((((bq.set 0 (.int .u64 A1)).set 1 (.string A2)).set 2 (.bool A3)).set 3 (.int .u64 A4)).set 4 (.string A5))));(have K2:=Lib.hid ((((((hin.setCell (p:=⟨(X+1),0,none⟩) (by first |(simp;done)|(have:=HX.out;simp;omega)) (.int .u64 A1)).setCell (p:=⟨(X+1),1,none⟩) (by first |(simp;done)|(have:=HX.out;simp;omega)) (.string A2)).setCell (p:=⟨(X+1),2,none⟩) (by first |(simp;done)|(have:=HX.out;simp;omega)) (.bool A3)).setCell (p:=⟨(X+1),3,none⟩) (by first |(simp;done)|(have:=HX.out;simp;omega)) (.int .u64 A4)).setCell (p:=⟨(X+1),4,none⟩) (by first |(simp;done)|(have:=HX.out;simp;omega)) (.string A5))));clear bq hin;go_wp2_with fail;have k1:=K1.out;have k2:=K2.out;clear q0 q1 q2 q3 q4 f0 f1 f2 f3 f4 ql K1 K2;(generalize ((((w'.setCell ⟨(X+1),0,none⟩ (.int .u64 A1)).setCell ⟨(X+1),1,none⟩ (.string A2)).setCell ⟨(X+1),2,none⟩ (.bool A3)).setCell ⟨(X+1),3,none⟩ (.int .u64 A4)).setCell ⟨(X+1),4,none⟩ (.string A5)=W5 at *);(have e0:W5.cell? ⟨(X+1),0,none⟩=some (.int .u64 A1):=k1.cell 0);(have e1:W5.cell? ⟨(X+1),1,none⟩=some (.string A2):=k1.cell 1);(have e2:W5.cell? ⟨(X+1),2,none⟩=some (.bool A3):=k1.cell 2);(have e3:W5.cell? ⟨(X+1),3,none⟩=some (.int .u64 A4):=k1.cell 3);(have e4:W5.cell? ⟨(X+1),4,none⟩=some (.string A5):=k1.cell 4);have hz:=k2.bel;(refine bodyPost_ret (v:=.agg #[.int .u64 A1,.string A2,.bool A3,.int .u64 A4,.string A5]) ?_ rfl ⟨rfl,hz⟩);(simp[results,Tryz.results156,go_sem,e0,e1,e2,e3,e4]))
end Gus
end
section
namespace Gus
open Go Go.RowKit Go.Proofs
def mxl (x F:Nat→Rat) (m k:Nat):List Rat:=(List.range m).map fun j=>if j<k then F j else x j
theorem mxl_length (x F:Nat→Rat) (m k:Nat):(mxl x F m k).length=m:=by simp[mxl]
theorem mxl_zero (x F:Nat→Rat) (m:Nat):mxl x F m 0=vl m x:=by
 unfold mxl vl
 exact List.map_congr_left fun i _=>by rw[if_neg (Nat.not_lt_zero _)]
theorem mxl_full (x F:Nat→Rat) (m:Nat):mxl x F m m=vl m F:=by
 unfold mxl vl
 exact List.map_congr_left fun i hi=>by rw[if_pos (List.mem_range.1 hi)]
theorem mxl_at (x F:Nat→Rat) {m k:Nat} (hk:k<m):(mxl x F m k).getD k 0=x k:=by simp[mxl,hk]
theorem mxl_set (x F:Nat→Rat) (m k:Nat):(mxl x F m k).set k (F k)=mxl x F m (k+1):=by
 unfold mxl
 apply List.ext_getElem
 ·simp
 ·intro i h1 h2
  simp only[List.getElem_set,List.getElem_map,List.getElem_range]
  by_cases h:k=i
  ·subst h;simp
  ·rw[if_neg h]
   by_cases h3:i<k
   ·rw[if_pos h3,if_pos (by omega)]
   ·rw[if_neg h3,if_neg (by omega)]
set_option maxRecDepth 100000 in
set_option maxHeartbeats 4000000 in
theorem each_any' {m g:Nat} {x F:Nat→Rat} (w:World) (p rb R rc i:Nat) (dl cs:List Value) (hp:Bx w p 136 (.slice (some ⟨rb,0,none⟩) R rc :: dl)) (hr:Bx w rb 31 cs) (hiR:i<R) (hci:cs[i]?=some (.slice (some ⟨g,0,none⟩) m m)) (hv:VBx w g (vl m x)) (hm:m≤4096)
  (g0:Nat) (cb:Array Value) (eg:∀ args w,(callFunc g0 args).run Tryz.prog w=.ok (.enter g0 args) w)
  (hcl:∀ k W,k<m→w.grownBy W (some g)→Calls Tryz.prog g0 (#[.int .i64 (k:Nat),fracV (x k)] ++ cb) W fun e w'=>e=.returned (fracV (F k))∧Below W.heap.size W w') :
  Calls Tryz.prog 154 #[.pointer (some ⟨p,0,none⟩),.int .i64 (i:Nat),.func (.func g0) #[] cb] w fun e w'=>e=.returned (.tuple #[])∧VBx w' g (vl m F)∧w.grownBy w' (some g):=by
 have hrg:¬ rb=g:=hr.ne_type hv (by decide)
 have hpg:¬ p=g:=hp.ne_type hv (by decide)
 have HC:=Lib.hid hcl
 have iI:(i:Int)<R:=by omega
 have i0:(0:Int)≤i:=by omega
 have p0:=hp.c0
 have pl:=hp.lt
 have r0:w.cell? ⟨rb,i,none⟩=some (.slice (some ⟨g,0,none⟩) m m):=(hr.cell i).trans hci
 have rl:=hr.lt
 have HP:=Lib.hid hp
 have HR:=Lib.hid hr
 have HV:=Lib.hid hv
 have HCI:=Lib.hid hci
 clear hp hr hv hcl hci
 go_enter Tryz.func154,Tryz.ntmps154
 go_wp2_with fail
 clear p0 r0 pl rl
 go_loopw [16] (fun v16 wr=>∃ k:Nat,k≤m∧v16=.int .i64 k∧w.grownBy wr (some g)∧VBx wr g (mxl x F m k)) (fun v16 _=>m - (RowKit.intOf v16).toNat)
 case atStart=>exact⟨0,Nat.zero_le _,rfl,World.grownBy.refl _ _,by rw[mxl_zero];exact HV.out⟩
 case round=>
  obtain⟨k,hk,rfl,hg,bv⟩:=hrel
  by_cases hkm:k<m
  ·have hkI:(k:Int)<m:=by omega
   have hk0:(0:Int)≤k:=by omega
   have hkw:IntKind.i64.wrap ((k:Int)+1)=((k+1:Nat):Int):=IntWalk.i64_in _ (by omega)
   have bp:Bx wr p 136 (.slice (some ⟨rb,0,none⟩) R rc :: dl):=HP.out.grown hg (by simp;exact hpg)
   have br:Bx wr rb 31 cs:=HR.out.grown hg (by simp;exact hrg)
   have hlt:k<(mxl x F m k).length:=by rw[mxl_length];exact hkm
   obtain⟨A1,A2,A3,A4,A5,hA,c0,c1,c2,c3,c4,f0,f1,f2,f3,f4⟩:=VBx.cells bv hlt
   rw[mxl_at x F hkm] at hA
   obtain⟨q,hq⟩:∃ q,q=F k:=⟨_,rfl⟩
   have hcl:=fun W h=>HC.out k W hkm h
   rw[←hq,hA] at hcl
   have HQ:=Lib.hid hq
   obtain⟨B1,B2,B3,B4,B5,hB,hB'⟩:∃ A1 A2 A3 A4 A5,fracV q=.agg #[.int .u64 A1,.string A2,.bool A3,.int .u64 A4,.string A5]∧fcs q=[.int .u64 A1,.string A2,.bool A3,.int .u64 A4,.string A5]:=⟨_,_,_,_,_,rfl,rfl⟩
   rw[hB] at hcl
   have HB:=Lib.hid hB'
   clear hq hB hB' hA
   have bvl:=bv.lt
   go_upto_region 3 with fail
   have hrr:=In.self wr
   ((obtain⟨Z,hZ⟩:∃ z,z=wr.heap.size:=⟨_,rfl⟩);(have bZ:=Bx.new_at wr #[.int .u64 A1,.string A2,.bool A3,.int .u64 A4,.string A5] 72 hZ);(have hgz:g<Z:=by rw[hZ];exact bv.lt);(replace hrr:=hrr.alloc (.cells #[.int .u64 A1,.string A2,.bool A3,.int .u64 A4,.string A5] 72));(replace bp:=bp.alloc (.cells #[.int .u64 A1,.string A2,.bool A3,.int .u64 A4,.string A5] 72));(replace br:=br.alloc (.cells #[.int .u64 A1,.string A2,.bool A3,.int .u64 A4,.string A5] 72));(replace bv:=bv.alloc (.cells #[.int .u64 A1,.string A2,.bool A3,.int .u64 A4,.string A5] 72));(rw[←hZ]);clear hZ;(generalize wr.alloc (.cells #[.int .u64 A1,.string A2,.bool A3,.int .u64 A4,.string A5] 72)=W1 at *))
   clear c0 c1 c2 c3 c4 f0 f1 f2 f3 f4
   (have z0:=bZ.c0;have z1:=bZ.c1;have z2:=bZ.c2;have z3:=bZ.c3;have z4:=bZ.c4;have zl:=bZ.lt)
   have p0:=bp.c0
   have pl:=bp.lt
   have r0:W1.cell? ⟨rb,i,none⟩=some (.slice (some ⟨g,0,none⟩) m m):=(br.cell i).trans HCI.out
   have rl:=br.lt
   have hgg:w.grownBy W1 (some g):=hg.trans (Gro.bel hrr.bel _)
   have hlt:k<(mxl x F m k).length:=by rw[mxl_length];exact hkm
   have hgl:=bv.lt
   have h:=In.self W1;have hc:=h.cell;have hf:=h.frozen;refine tfw 13 ?_;refine tset ?_;(repeat (first | refine tfs ?_))
   ((with_reducible refine flow_pure0 (v:=?_) ?_ ?_ ?_ ?_);rotate_left 1;(focus (with_reducible rfl));(focus rfl);(focus (intro u w1 hw hd;replace hd:=thn hd;have hc':=hw.cell;go_simp;((with_reducible refine(hcl w1 (hgg.trans (Gro.bel hw.ins.bel _))).mono ?_));rintro e w'' ⟨rfl,hb⟩;refine⟨?_,hb⟩;exact rfl)))
   (repeat (first | refine tfs ?_))
   (try clear hc hf h);intro u w' h ha hdi;replace h:=tsz h.ins;replace ha:=tah ha;have hc:=h.cell;have hf:=h.frozen
   (try obtain ha:=ha);(try dsimp only);simp only[ha];clear ha hdi
   have bv5:=bv.call h.bel
   obtain⟨_,_,_,_,_,_,c0,c1,c2,c3,c4,f0,f1,f2,f3,f4⟩:=VBx.cells bv5 hlt
   have hgl5:=bv5.lt
   have hs:=VBx.setA bv5 k q hlt HB.out
   rw[show(mxl x F m k).set k q=mxl x F m (k+1) by rw[HQ.out];exact mxl_set _ _ _ _] at hs
   have H1:=Lib.hid hs
   have H2:=Lib.hid ((hgg.trans (Gro.bel h.bel _)).trans (gr_putA w' g k (.int .u64 B1) (.string B2) (.bool B3) (.int .u64 B4) (.string B5)))
   clear hs hc hf h hgg bv5 bv bp br bZ z0 z1 z2 z3 z4 zl p0 pl r0 rl hgl hcl hrr hg
   go_wp2_with fail
   exact⟨⟨k+1,by omega,by go_num,H2.out,H1.out⟩,by simp[RowKit.intOf];omega⟩
  ·obtain rfl:k=m:=by omega
   have hkI:¬ (k:Int)<k:=by omega
   rw[mxl_full] at bv
   have H1:=Lib.hid bv
   have H2:=Lib.hid hg
   clear bv hg
   go_wp2_with fail
   go_end0
   exact⟨rfl,H1.out,H2.out⟩
end Gus
end
