/- Proved here: parts of the proof: KDta KDtb KRegD. Conditions: those that each theorem states. -/
import Derived.Test.YthblojaeoiemmaaGreatDoorKShaQ
section
namespace Gus
def dsgn (i:Nat):Rat:=if i % 2=0 then 1 else -1
theorem dsgn_succ (i:Nat):dsgn (i+1)=-dsgn i:=by
 unfold dsgn
 by_cases h:i % 2=0
 ·rw[if_pos h,if_neg (by omega)]
 ·rw[if_neg h,if_pos (by omega)];grind
def mnr (M:Mx) (i:Nat):Mx:=fun r c=>M (if r<i then r else r+1) (c+1)
def detL:Nat→Mx→Rat
 | 0,_=>1
 | n+1,M=>sm (fun i=>dsgn i*M i 0*detL n (mnr M i)) (n+1)
theorem detL_congr:∀ (n:Nat) {A B:Mx},(∀ r c,r<n→c<n→A r c=B r c)→detL n A=detL n B
 | 0,_,_,_=>rfl
 | n+1,A,B,h=>sm_congr _ fun i hi=>by
  rw[h i 0 hi (by omega),detL_congr n (A:=mnr A i) (B:=mnr B i) fun r c hr hc=>by
   unfold mnr
   exact h _ _ (by split <;> omega) (by omega)]
def setR (M:Mx) (t:Nat) (v:Vc):Mx:=fun r c=>if r=t then v c else M r c
theorem mnr_set_lt {M:Mx} {t i:Nat} {v:Vc} (h:t<i):mnr (setR M t v) i=setR (mnr M i) t fun c=>v (c+1):=by
 funext r c
 unfold mnr setR
 by_cases hr:r=t
 ·subst hr;rw[if_pos h,if_pos rfl,if_pos rfl]
 ·rw[if_neg hr,if_neg (show ¬ (if r<i then r else r+1)=t by split <;> omega)]
theorem mnr_set_gt {M:Mx} {t i:Nat} {v:Vc} (h:i<t):mnr (setR M t v) i=setR (mnr M i) (t - 1) fun c=>v (c+1):=by
 funext r c
 unfold mnr setR
 by_cases hr:r=t - 1
 ·have e:(if r<i then r else r+1)=t:=by rw[if_neg (by omega)];omega
  rw[if_pos hr,if_pos e]
 ·rw[if_neg hr,if_neg (show ¬ (if r<i then r else r+1)=t by split <;> omega)]
theorem mnr_set_eq {M:Mx} {t:Nat} {v:Vc}:mnr (setR M t v) t=mnr M t:=by
 funext r c
 unfold mnr setR
 rw[if_neg (show ¬ (if r<t then r else r+1)=t by split <;> omega)]
theorem setR_self (M:Mx) (t:Nat):setR M t (M t)=M:=by
 funext r c;unfold setR;split
 ·rename_i h;rw[h]
 ·rfl
theorem detL_lin:∀ (n:Nat) (M:Mx) (t:Nat),t<n→∀ (u v:Vc) (x:Rat),detL n (setR M t fun c=>u c+x*v c)=detL n (setR M t u)+x*detL n (setR M t v)
 | 0,_,_,h,_,_,_=>absurd h (Nat.not_lt_zero _)
 | n+1,M,t,ht,u,v,x=>by
  show sm (fun i=>dsgn i*setR M t _ i 0*detL n (mnr (setR M t _) i)) (n+1)=sm (fun i=>dsgn i*setR M t u i 0*detL n (mnr (setR M t u) i)) (n+1)+x*sm (fun i=>dsgn i*setR M t v i 0*detL n (mnr (setR M t v) i)) (n+1)
  rw[←sm_mul,←sm_add]
  refine sm_congr _ fun i hi=>?_
  rcases Nat.lt_trichotomy i t with h | h | h
  ·rw[mnr_set_gt h,mnr_set_gt h,mnr_set_gt h,detL_lin n (mnr M i) (t - 1) (by omega)]
   have e:∀ w:Vc,setR M t w i 0=M i 0:=fun w=>by unfold setR;rw[if_neg (by omega)]
   rw[e,e,e];grind
  ·subst h
   rw[mnr_set_eq,mnr_set_eq,mnr_set_eq]
   have e:∀ w:Vc,setR M i w i 0=w 0:=fun w=>by unfold setR;rw[if_pos rfl]
   rw[e,e,e];grind
  ·rw[mnr_set_lt h,mnr_set_lt h,mnr_set_lt h,detL_lin n (mnr M i) t (by omega)]
   have e:∀ w:Vc,setR M t w i 0=M i 0:=fun w=>by unfold setR;rw[if_neg (by omega)]
   rw[e,e,e];grind
theorem sm_pair {F:Nat→Rat} {p:Nat}:∀ n,p+1<n→(∀ i,i<n→i≠p→i≠p+1→F i=0)→F p+F (p+1)=0→sm F n=0
 | 0,h,_,_=>absurd h (Nat.not_lt_zero _)
 | n+1,h,hz,hp=>by
  show sm F n+F n=0
  by_cases hn:p+1=n
  ·subst hn
   have:sm F (p+1)=F p:=sm_one (k:=p) (by omega) fun i hi hip=>hz i (by omega) hip (by omega)
   rw[this,hp]
  ·rw[sm_pair n (by omega) (fun i hi h1 h2=>hz i (by omega) h1 h2) hp,hz n (by omega) (by omega) (by omega)];grind
theorem detL_adj:∀ (n:Nat) (M:Mx) (p:Nat),p+1<n→(∀ c,M p c=M (p+1) c)→detL n M=0
 | 0,_,_,h,_=>absurd h (Nat.not_lt_zero _)
 | n+1,M,p,hp,he=>by
  refine sm_pair (p:=p) _ hp (fun i hi h1 h2=>?_) ?_
  ·have:detL n (mnr M i)=0:=by
    by_cases h:i<p
    ·refine detL_adj n _ (p - 1) (by omega) fun c=>?_
     unfold mnr
     rw[if_neg (by omega),if_neg (by omega),show p - 1+1=p by omega];exact he _
    ·refine detL_adj n _ p (by omega) fun c=>?_
     unfold mnr
     rw[if_pos (by omega),if_pos (by omega)];exact he _
   rw[this];grind
  ·have e:mnr M p=mnr M (p+1):=by
    funext r c
    unfold mnr
    by_cases h1:r<p
    ·rw[if_pos h1,if_pos (by omega)]
    ·by_cases h2:r=p
     ·subst h2;rw[if_neg (Nat.lt_irrefl _),if_pos (by omega)];exact(he _).symm
     ·rw[if_neg h1,if_neg (by omega)]
   rw[dsgn_succ,e,he 0];grind
theorem detL_add {n t:Nat} (M:Mx) (ht:t<n) (u v:Vc):detL n (setR M t fun c=>u c+v c)=detL n (setR M t u)+detL n (setR M t v):=by
 have h:=detL_lin n M t ht u v 1
 rw[show(fun c=>u c+1*v c)=fun c=>u c+v c from funext fun c=>by grind] at h
 rw[h];grind
theorem setR_comm (M:Mx) {a b:Nat} (h:a≠b) (u v:Vc):setR (setR M a u) b v=setR (setR M b v) a u:=by
 funext r c;unfold setR
 by_cases h1:r=a
 ·subst h1;rw[if_pos rfl,if_neg h,if_pos rfl]
 ·rw[if_neg h1,if_neg h1]
theorem detL_swapAdj {n p:Nat} (M:Mx) (hp:p+1<n):detL n (rowSwap M p (p+1))=-detL n M:=by
 have Tz:∀ w:Vc,detL n (setR (setR M p w) (p+1) w)=0:=fun w=>detL_adj n _ p hp fun c=>by
  unfold setR
  rw[if_neg (by omega),if_pos rfl,if_pos rfl]
 have Tl:∀ u u' v:Vc,detL n (setR (setR M p fun c=>u c+u' c) (p+1) v)=detL n (setR (setR M p u) (p+1) v)+detL n (setR (setR M p u') (p+1) v):=fun u u' v=>by
  rw[setR_comm M (show p≠p+1 by omega),setR_comm M (show p≠p+1 by omega) u v,setR_comm M (show p≠p+1 by omega) u' v]
  exact detL_add _ (by omega) u u'
 have h1:=Tl (M p) (M (p+1)) (fun c=>M p c+M (p+1) c)
 have h2:=detL_add (n:=n) (setR M p (M p)) hp (M p) (M (p+1))
 have h3:=detL_add (n:=n) (setR M p (M (p+1))) hp (M p) (M (p+1))
 have h0:=Tz fun c=>M p c+M (p+1) c
 have z1:=Tz (M p)
 have z2:=Tz (M (p+1))
 have e1:setR (setR M p (M p)) (p+1) (M (p+1))=M:=by rw[setR_self,setR_self]
 have e2:setR (setR M p (M (p+1))) (p+1) (M p)=rowSwap M p (p+1):=by
  funext r c;unfold setR rowSwap
  by_cases h:r=p
  ·rw[if_neg (by omega),if_pos h,if_pos h]
  ·rw[if_neg h,if_neg h]
 rw[e1] at h2
 rw[e2] at h3
 rw[h1,h2,h3,z1,z2] at h0
 grind
theorem rowSwap_comm (M:Mx) (i t:Nat):rowSwap M i t=rowSwap M t i:=by
 funext r c;unfold rowSwap;grind
theorem detL_swapUp:∀ (d:Nat) {n i:Nat} (M:Mx),i+(d+1)<n→detL n (rowSwap M i (i+(d+1)))=-detL n M
 | 0,_,_,M,h=>detL_swapAdj M h
 | d+1,n,i,M,h=>by
  have e:rowSwap M i (i+(d+1+1))=rowSwap (rowSwap (rowSwap M i (i+1)) (i+1) (i+1+(d+1))) i (i+1):=by
   funext r c;unfold rowSwap;grind
  rw[e,detL_swapAdj _ (by omega),detL_swapUp d _ (by omega),detL_swapAdj _ (by omega)];grind
theorem detL_swap {n i t:Nat} (M:Mx) (hi:i<n) (ht:t<n) (h:i≠t):detL n (rowSwap M i t)=-detL n M:=by
 rcases Nat.lt_or_ge i t with h1 | h1
 ·obtain⟨d,rfl⟩:∃ d,t=i+(d+1):=⟨t - i - 1,by omega⟩
  exact detL_swapUp d M ht
 ·obtain⟨d,rfl⟩:∃ d,i=t+(d+1):=⟨i - t - 1,by omega⟩
  rw[rowSwap_comm];exact detL_swapUp d M hi
theorem detL_same {n a b:Nat} (M:Mx) (ha:a<n) (hb:b<n) (h:a≠b) (he:∀ c,M a c=M b c):detL n M=0:=by
 have h1:=detL_swap M ha hb h
 have e:rowSwap M a b=M:=by
  funext r c;unfold rowSwap
  split
  ·rename_i h2;rw[h2,he]
  ·split
   ·rename_i h2;rw[h2,he]
   ·rfl
 rw[e] at h1;grind
structure RowFn (n:Nat) (F:Mx→Rat):Prop where
 congr:∀ A B:Mx,(∀ r c,r<n→c<n→A r c=B r c)→F A=F B
 swap:∀ (M:Mx) (i t:Nat),i<n→t<n→i≠t→F (rowSwap M i t)=-F M
 scale:∀ (M:Mx) (t:Nat) (x:Rat),t<n→F (setR M t fun c=>x*M t c)=x*F M
 add:∀ (M:Mx) (r t:Nat) (x:Rat),r<n→t<n→r≠t→F (setR M r fun c=>M r c+x*M t c)=F M
theorem detL_zero {n t:Nat} (M:Mx) (ht:t<n):detL n (setR M t fun _=>0)=0:=by
 have h:=detL_add M ht (fun _=>0) (fun _=>0)
 rw[show(fun(_:Nat)=>(0:Rat)+0)=fun _=>0 from funext fun _=>by grind] at h
 grind
theorem detL_rowFn (n:Nat):RowFn n (detL n) where
 congr _ _ h:=detL_congr n h
 swap M i t hi ht h:=detL_swap M hi ht h
 scale M t x ht:=by
  have h:=detL_lin n M t ht (fun _=>0) (M t) x
  rw[detL_zero M ht,setR_self] at h
  rw[show(fun c=>x*M t c)=fun c=>0+x*M t c from funext fun c=>by grind,h];grind
 add M r t x hr ht h:=by
  have h1:=detL_lin n M r hr (M r) (M t) x
  rw[setR_self,detL_same (setR M r (M t)) hr ht h fun c=>by unfold setR;rw[if_pos rfl,if_neg (Ne.symm h)]] at h1
  rw[h1];grind
def clrP (M:Mx) (t k j:Nat):Mx:=fun r c=>if r=t then M t c / M t k else if r<j then M r c - M r k*(M t c / M t k) else M r c
section
variable {n:Nat} {F:Mx→Rat}
theorem RowFn.clr (hF:RowFn n F) (M:Mx) {t k:Nat} (ht:t<n) (hp:M t k≠0):∀ j,j≤n→F (clrP M t k j)=F M / M t k
 | 0,_=>by
  rw[hF.congr _ (setR M t fun c=>(M t k)⁻¹*M t c) fun r c _ _=>by
   unfold clrP setR
   split
   ·rw[Rat.div_def];grind
   ·rw[if_neg (Nat.not_lt_zero _)],hF.scale M t _ ht,Rat.div_def];grind
 | j+1,hj=>by
  rw[←hF.clr M ht hp j (by omega)]
  by_cases h:j=t
  ·exact hF.congr _ _ fun r c _ _=>by
    unfold clrP
    by_cases h1:r=t
    ·rw[if_pos h1,if_pos h1]
    ·rw[if_neg h1,if_neg h1]
     by_cases h2:r<j
     ·rw[if_pos h2,if_pos (by omega)]
     ·rw[if_neg h2,if_neg (by omega)]
  ·rw[←hF.add (clrP M t k j) j t (-(M j k)) (by omega) ht h]
   exact hF.congr _ _ fun r c _ _=>by
    unfold setR clrP
    by_cases h1:r=t
    ·subst h1;rw[if_pos rfl,if_neg (fun e=>h e.symm),if_pos rfl]
    ·rw[if_neg h1]
     by_cases h2:r=j
     ·subst h2
      rw[if_pos (by omega),if_pos rfl]
      dsimp only
      rw[if_neg h1,if_neg (Nat.lt_irrefl _),if_pos rfl];grind
     ·rw[if_neg h2,if_neg h1]
      by_cases h3:r<j
      ·rw[if_pos h3,if_pos (by omega)]
      ·rw[if_neg h3,if_neg (by omega)]
theorem RowFn.clear (hF:RowFn n F) (M:Mx) {t k:Nat} (ht:t<n) (hp:M t k≠0):F (rowClear M t k)=F M / M t k:=by
 rw[←hF.clr M ht hp n (Nat.le_refl _)]
 exact hF.congr _ _ fun r c hr _=>by
  unfold rowClear clrP
  by_cases h1:r=t
  ·rw[if_pos h1,if_pos h1]
  ·rw[if_neg h1,if_neg h1,if_pos hr]
theorem RowFn.elim (hF:RowFn n F) (A:Mx):∀ k,F A=(Gus.elim n A k).det*F (Gus.elim n A k).M
 | 0=>by show F A=1*F A;grind
 | k+1=>by
  rw[hF.elim A k]
  show _=(elStep n (Gus.elim n A k) k).det*F (elStep n (Gus.elim n A k) k).M
  generalize Gus.elim n A k=s
  unfold elStep
  cases hp:pivF s.M k (n - s.piv.length) s.piv.length with
  | none=>rfl
  | some i=>
   simp only
   obtain⟨h1,h2,h3,_⟩:=pivF_some hp
   have hi:i<n:=by omega
   have ht:s.piv.length<n:=by omega
   generalize s.piv.length=t at *
   have e:rowSwap s.M i t t k=s.M i k:=by
    unfold rowSwap
    by_cases hit:t=i
    ·rw[if_pos hit,hit]
    ·rw[if_neg hit,if_pos rfl]
   have hne:rowSwap s.M i t t k≠0:=by rw[e];exact h3
   rw[hF.clear _ ht hne]
   generalize rowSwap s.M i t t k=p at *
   by_cases hit:i=t
   ·rw[if_pos hit]
    have es:rowSwap s.M i t=s.M:=by
     subst hit
     funext r c;unfold rowSwap;grind
    rw[es]
    have:=Rat.mul_inv_cancel _ hne
    rw[Rat.div_def];grind
   ·rw[if_neg hit,hF.swap _ _ _ hi ht hit]
    have:=Rat.mul_inv_cancel _ hne
    rw[Rat.div_def];grind
def idM:Mx:=fun r c=>if r=c then 1 else 0
theorem RowFn.zrow (hF:RowFn n F) (M:Mx) {t:Nat} (ht:t<n) (hz:∀ c,c<n→M t c=0):F M=0:=by
 have h:=hF.scale M t 0 ht
 rw[hF.congr (setR M t fun c=>0*M t c) M fun r c _ hc=>by
  unfold setR
  split
  ·rename_i h;rw[h,hz c hc];grind
  ·rfl] at h
 grind
theorem RowFn.eq (hF:RowFn n F) (A:Mx):F A=detE n A*F idM:=by
 have hr:=elim_red n n A n
 rw[hF.elim A n]
 unfold detE
 by_cases h:(Gus.elim n A n).piv.length<n
 ·rw[if_pos h,hF.zrow _ h fun c hc=>hr.zero _ c (Nat.le_refl _) h hc];grind
 ·rw[if_neg h]
  have hp:=piv_range (n:=n) (M:=A) (by have:=hr.len;omega)
  rw[hF.congr (Gus.elim n A n).M idM fun r c hr' hc=>one_of_range hr hp hr' hc]
end
theorem detL_one:∀ n,detL n idM=1
 | 0=>rfl
 | n+1=>by
  show sm (fun i=>dsgn i*idM i 0*detL n (mnr idM i)) (n+1)=1
  rw[sm_one (k:=0) (by omega) fun i _ h=>by
   rw[show idM i 0=0 from if_neg h];grind]
  rw[detL_congr n (B:=idM) fun r c _ _=>by
   unfold mnr idM
   rw[if_neg (Nat.not_lt_zero _)]
   by_cases h:r=c
   ·rw[if_pos h,if_pos (by omega)]
   ·rw[if_neg h,if_neg (by omega)],detL_one n]
  show dsgn 0*1*1=1
  unfold dsgn;rw[if_pos rfl];grind
theorem detE_eq (n:Nat) (A:Mx):detE n A=detL n A:=by
 rw[(detL_rowFn n).eq A,detL_one];grind
theorem detE_rowFn (n:Nat):RowFn n (detE n):=by
 have e:detE n=detL n:=funext fun A=>detE_eq n A
 rw[e];exact detL_rowFn n
theorem detE_one (n:Nat):detE n idM=1:=by rw[detE_eq,detL_one]
end Gus
end
section
namespace Gus
theorem mulM_set (n:Nat) (A B:Mx) (t:Nat) (v:Vc):mulM n (setR A t v) B=setR (mulM n A B) t fun j=>sm (fun s=>v s*B s j) n:=by
 funext r j
 unfold mulM setR
 split
 ·rfl
 ·rfl
theorem detE_mul_rowFn (n:Nat) (B:Mx):RowFn n fun A=>detE n (mulM n A B) where
 congr A A' h:=(detE_rowFn n).congr _ _ fun r c hr _=>sm_congr n fun s hs=>by rw[h r s hr hs]
 swap M i t hi ht h:=by
  rw[←(detE_rowFn n).swap (mulM n M B) i t hi ht h]
  refine(detE_rowFn n).congr _ _ fun r c _ _=>?_
  unfold mulM rowSwap
  split
  ·rfl
  ·split
   ·rfl
   ·rfl
 scale M t x ht:=by
  rw[←(detE_rowFn n).scale (mulM n M B) t x ht,mulM_set]
  refine(detE_rowFn n).congr _ _ fun r c _ _=>?_
  unfold setR
  split
  ·show sm (fun s=>x*M t s*B s c) n=x*sm (fun s=>M t s*B s c) n
   rw[←sm_mul];exact sm_congr n fun s _=>by grind
  ·rfl
 add M r t x hr ht h:=by
  rw[←(detE_rowFn n).add (mulM n M B) r t x hr ht h,mulM_set]
  refine(detE_rowFn n).congr _ _ fun i c _ _=>?_
  unfold setR
  split
  ·show sm (fun s=>(M r s+x*M t s)*B s c) n=sm (fun s=>M r s*B s c) n+x*sm (fun s=>M t s*B s c) n
   rw[←sm_mul,←sm_add];exact sm_congr n fun s _=>by grind
  ·rfl
theorem mulM_idM (n:Nat) (B:Mx) {r:Nat} (hr:r<n) (c:Nat):mulM n idM B r c=B r c:=sm_delta hr _ (fun s=>B s c) fun _ _=>rfl
theorem detE_mul (n:Nat) (A B:Mx):detE n (mulM n A B)=detE n A*detE n B:=by
 have h:=(detE_mul_rowFn n B).eq A
 rw[h]
 congr 1
 exact(detE_rowFn n).congr _ _ fun r c hr _=>mulM_idM n B hr c
section
variable {n:Nat} {F:Mx→Rat}
theorem RowFn.addSm (hF:RowFn n F) (M:Mx) {r:Nat} (hr:r<n) (X:Vc) (hx:X r=0):∀ m,m≤n→F (setR M r fun c=>M r c+sm (fun t=>X t*M t c) m)=F M
 | 0,_=>hF.congr _ _ fun i c _ _=>by
  unfold setR
  split
  ·rename_i h;subst h;show M i c+0=_;grind
  ·rfl
 | m+1,hm=>by
  rw[←hF.addSm M hr X hx m (by omega)]
  by_cases h:m=r
  ·subst h
   refine hF.congr _ _ fun i c _ _=>?_
   unfold setR
   split
   ·show M m c+(sm _ m+X m*M m c)=_
    rw[hx];grind
   ·rfl
  ·rw[←hF.add (setR M r fun c=>M r c+sm (fun t=>X t*M t c) m) r m (X m) hr (by omega) (Ne.symm h)]
   refine hF.congr _ _ fun i c _ _=>?_
   unfold setR
   by_cases hi:i=r
   ·rw[if_pos hi,if_pos hi]
    dsimp only
    rw[if_pos rfl,if_neg h]
    show M r c+(sm _ m+X m*M m c)=_
    grind
   ·rw[if_neg hi,if_neg hi,if_neg hi]
theorem RowFn.addAll (hF:RowFn n F) (M X:Mx) (hX:∀ r t,r<n→t<n→X r t≠0→∀ s,s<n→X t s=0):F (fun r c=>M r c+sm (fun t=>X r t*M t c) n)=F M:=by
 have hd:∀ r,r<n→X r r=0:=fun r hr=>Decidable.by_contra fun h=>h (hX r r hr hr h r hr)
 have key:∀ j,j≤n→F (fun r c=>if r<j then M r c+sm (fun t=>X r t*M t c) n else M r c)=F M:=fun j=>by
  induction j with
  | zero=>intro _;exact hF.congr _ _ fun r c _ _=>if_neg (Nat.not_lt_zero _)
  | succ j ih=>
   intro hj
   rw[←ih (by omega),←hF.addSm (fun r c=>if r<j then M r c+sm (fun t=>X r t*M t c) n else M r c) (r:=j) (by omega) (X j) (hd j (by omega)) n (Nat.le_refl _)]
   refine hF.congr _ _ fun r c hr _=>?_
   unfold setR
   by_cases h:r=j
   ·subst h
    rw[if_pos (by omega),if_pos rfl]
    show _=(if r<r then _ else M r c)+_
    rw[if_neg (Nat.lt_irrefl _)]
    congr 1
    refine sm_congr n fun t ht=>?_
    by_cases h0:X r t=0
    ·rw[h0];grind
    ·congr 1
     show M t c=if t<r then _ else M t c
     split
     ·have hz:=hX r t hr ht h0
      rw[sm_congr (G:=fun _=>0) n fun s hs=>by rw[hz s hs];grind,sm_zero];grind
     ·rfl
   ·rw[if_neg h]
    dsimp only
    by_cases h2:r<j
    ·rw[if_pos h2,if_pos (by omega)]
    ·rw[if_neg h2,if_neg (by omega)]
 rw[←key n (Nat.le_refl _)]
 exact hF.congr _ _ fun r c hr _=>(if_pos hr).symm
end
def blk4 (a:Nat) (B E C D:Mx):Mx:=fun r c=>if r<a then (if c<a then B r c else E r (c - a)) else (if c<a then C (r - a) c else D (r - a) (c - a))
theorem blk4_low_rowFn (a o:Nat) (B E:Mx):RowFn o fun S=>detE (a+o) (blk4 a B E (fun _ _=>0) S) where
 congr A A' h:=(detE_rowFn _).congr _ _ fun r c hr hc=>by
  unfold blk4
  split
  ·rfl
  ·split
   ·rfl
   ·exact h _ _ (by omega) (by omega)
 swap M i t hi ht h:=by
  rw[←(detE_rowFn (a+o)).swap _ (a+i) (a+t) (by omega) (by omega) (by omega)]
  refine(detE_rowFn _).congr _ _ fun r c _ _=>?_
  unfold blk4 rowSwap
  grind
 scale M t x ht:=by
  rw[←(detE_rowFn (a+o)).scale _ (a+t) x (by omega)]
  refine(detE_rowFn _).congr _ _ fun r c _ _=>?_
  unfold blk4 setR
  grind
 add M r t x hr ht h:=by
  rw[←(detE_rowFn (a+o)).add (blk4 a B E (fun _ _=>0) M) (a+r) (a+t) x (by omega) (by omega) (by omega)]
  refine(detE_rowFn _).congr _ _ fun i c _ _=>?_
  unfold blk4 setR
  by_cases hi:i=a+r
  ·subst hi
   have e1:a+r - a=r:=by omega
   have e2:a+t - a=t:=by omega
   have n1:¬ a+r<a:=by omega
   have n2:¬ a+t<a:=by omega
   by_cases hc:c<a
   ·simp only[n1,n2,hc,if_true,if_false];grind
   ·simp only[n1,n2,hc,e1,e2,if_true,if_false]
  ·by_cases ha:i<a
   ·simp only[ha,hi,if_true,if_false]
   ·have:¬ i - a=r:=by omega
    simp only[ha,hi,this,if_false]
theorem blk4_top_rowFn (a o:Nat):RowFn a fun B=>detE (a+o) (blk4 a B (fun _ _=>0) (fun _ _=>0) idM) where
 congr A A' h:=(detE_rowFn _).congr _ _ fun r c hr hc=>by
  unfold blk4
  split
  ·split
   ·exact h _ _ (by omega) (by omega)
   ·rfl
  ·rfl
 swap M i t hi ht h:=by
  rw[←(detE_rowFn (a+o)).swap _ i t (by omega) (by omega) h]
  refine(detE_rowFn _).congr _ _ fun r c _ _=>?_
  unfold blk4 rowSwap
  grind
 scale M t x ht:=by
  rw[←(detE_rowFn (a+o)).scale _ t x (by omega)]
  refine(detE_rowFn _).congr _ _ fun r c _ _=>?_
  unfold blk4 setR
  grind
 add M r t x hr ht h:=by
  rw[←(detE_rowFn (a+o)).add (blk4 a M (fun _ _=>0) (fun _ _=>0) idM) r t x (by omega) (by omega) h]
  refine(detE_rowFn _).congr _ _ fun i c _ _=>?_
  unfold blk4 setR
  by_cases hi:i=r
  ·subst hi
   by_cases hc:c<a
   ·simp only[hr,ht,hc,if_true]
   ·simp only[hr,ht,hc,if_true,if_false];grind
  ·simp only[hi,if_false]
theorem detE_blk (a o:Nat) (B E S:Mx):detE (a+o) (blk4 a B E (fun _ _=>0) S)=detE a B*detE o S:=by
 have h1:=(blk4_low_rowFn a o B E).eq S
 rw[h1]
 have h2:detE (a+o) (blk4 a B E (fun _ _=>0) idM)=detE (a+o) (blk4 a B (fun _ _=>0) (fun _ _=>0) idM):=by
  have h:=(detE_rowFn (a+o)).addAll (blk4 a B E (fun _ _=>0) idM) (fun r t=>if r<a∧a≤t then -E r (t - a) else 0) fun r t hr ht hx s hs=>by
   have hra:r<a∧a≤t:=Decidable.by_contra fun h=>hx (if_neg h)
   exact if_neg (by omega)
  rw[←h]
  refine(detE_rowFn _).congr _ _ fun r c hr hc=>?_
  by_cases hra:r<a
  ·have e:sm (fun t=>(if r<a∧a≤t then -E r (t - a) else 0)*blk4 a B E (fun _ _=>0) idM t c) (a+o)=sm (fun t=>-E r t*blk4 a B E (fun _ _=>0) idM (a+t) c) o:=by
    rw[sm_split,sm_congr (G:=fun _=>0) a fun t ht=>by rw[if_neg (by omega)];grind,sm_zero]
    rw[sm_congr (F:=fun t=>(if r<a∧a≤a+t then -E r (a+t - a) else 0)*blk4 a B E (fun _ _=>0) idM (a+t) c) (G:=fun t=>-E r t*blk4 a B E (fun _ _=>0) idM (a+t) c) o fun t ht=>by rw[if_pos ⟨hra,by omega⟩,Nat.add_sub_cancel_left]]
    grind
   rw[e]
   unfold blk4
   rw[if_pos hra]
   by_cases hca:c<a
   ·rw[if_pos hca,if_pos hra,if_pos hca,sm_congr (G:=fun _=>0) o fun t ht=>by rw[if_neg (by omega),if_pos hca];grind,sm_zero];grind
   ·rw[if_neg hca,if_pos hra,if_neg hca]
    rw[sm_one (k:=c - a) (by omega) fun t ht hne=>by
     rw[if_neg (by omega),if_neg hca]
     show _*(if a+t - a=c - a then (1:Rat) else 0)=0
     rw[if_neg (by omega)];grind]
    rw[if_neg (by omega),if_neg hca]
    show E r (c - a)+_*(if a+(c - a) - a=c - a then (1:Rat) else 0)=0
    rw[if_pos (by omega)];grind
  ·rw[sm_congr (G:=fun _=>0) (a+o) fun t ht=>by rw[if_neg (by omega)];grind,sm_zero]
   unfold blk4
   rw[if_neg hra,if_neg hra];grind
 rw[h2]
 have h3:=(blk4_top_rowFn a o).eq B
 simp only at h3
 rw[h3]
 have h4:detE (a+o) (blk4 a idM (fun _ _=>0) (fun _ _=>0) idM)=1:=by
  rw[←detE_one (a+o)]
  refine(detE_rowFn _).congr _ _ fun r c _ _=>?_
  unfold blk4 idM
  grind
 rw[h4];grind
theorem detE_turn {n:Nat} (M:Mx) {l:List Nat} (hp:l.Perm (List.range n)):detE n (sub M l l)=detE n M:=by
 have hl:l.length=n:=by have:=hp.length_eq;simpa using this
 have hn:l.Nodup:=hp.nodup_iff.2 List.nodup_range
 have hlt:∀ r,r<n→l.getD r 0<n:=fun r hr=>List.mem_range.1 (hp.mem_iff.1 (getD_in (by omega)))
 have hinj:∀ r c,r<n→c<n→l.getD r 0=l.getD c 0→r=c:=fun r c hr hc h=>by
  have h1:=idx_getD hn (r:=r) (by omega)
  have h2:=idx_getD hn (r:=c) (by omega)
  rw[h] at h1;omega
 obtain⟨P,hP⟩:∃ P:Mx,P=fun r c=>if l.getD r 0=c then 1 else 0:=⟨_,rfl⟩
 obtain⟨Q,hQ⟩:∃ Q:Mx,Q=fun r c=>if l.getD c 0=r then 1 else 0:=⟨_,rfl⟩
 have hPm:∀ (A:Mx) r c,r<n→mulM n P A r c=A (l.getD r 0) c:=fun A r c hr=>by
  subst hP
  exact sm_delta (hlt r hr) _ (fun s=>A s c) fun s _=>rfl
 have hmQ:∀ (A:Mx) r c,c<n→mulM n A Q r c=A r (l.getD c 0):=fun A r c hc=>by
  subst hQ
  show sm (fun s=>A r s*(if l.getD c 0=s then 1 else 0)) n=_
  rw[sm_congr (G:=fun s=>(if l.getD c 0=s then (1:Rat) else 0)*A r s) n fun s _=>by grind]
  exact sm_delta (hlt c hc) _ (fun s=>A r s) fun s _=>rfl
 have h1:detE n (sub M l l)=detE n (mulM n (mulM n P M) Q):=(detE_rowFn n).congr _ _ fun r c hr hc=>by
  rw[hmQ _ r c hc,hPm _ _ _ hr];rfl
 have h2:detE n P*detE n Q=1:=by
  rw[←detE_mul,←detE_one n]
  refine(detE_rowFn n).congr _ _ fun r c hr hc=>?_
  rw[hmQ _ r c hc,hP]
  unfold idM
  dsimp only
  by_cases h:r=c
  ·rw[if_pos h,if_pos (by rw[h])]
  ·rw[if_neg h,if_neg fun e=>h (hinj r c hr hc e)]
 rw[h1,detE_mul,detE_mul]
 grind
theorem getD_app_left {a b:List Nat} {r:Nat} (h:r<a.length):(a ++ b).getD r 0=a.getD r 0:=by
 simp only[List.getD_eq_getElem?_getD,List.getElem?_append_left h]
theorem getD_app_right {a b:List Nat} {r:Nat} (h:a.length≤r):(a ++ b).getD r 0=b.getD (r - a.length) 0:=by
 simp only[List.getD_eq_getElem?_getD,List.getElem?_append_right h]
theorem Split.det {n:Nat} {ii oo:List Nat} (h:Split n ii oo) {M N:Mx} (hN:IsInv ii.length (sub M ii ii) N):detE n M=detE ii.length (sub M ii ii)*detE oo.length (schur M ii oo N):=by
 have hlen:=h.len
 rw[←detE_turn M h.perm,←detE_blk _ _ _ (sub M ii oo),hlen]
 have hadd:=(detE_rowFn n).addAll (sub M (ii ++ oo) (ii ++ oo)) (fun r t=>if ii.length≤r∧t<ii.length then -mulM ii.length (sub M oo ii) N (r - ii.length) t else 0) fun r t hr ht hx s hs=>by
  have hra:ii.length≤r∧t<ii.length:=Decidable.by_contra fun h=>hx (if_neg h)
  exact if_neg (by omega)
 rw[←hadd]
 refine(detE_rowFn n).congr _ _ fun r c hr hc=>?_
 by_cases hra:r<ii.length
 ·rw[sm_congr (G:=fun _=>0) n fun t ht=>by rw[if_neg (by omega)];grind,sm_zero]
  unfold blk4 sub
  rw[if_pos hra,getD_app_left hra]
  by_cases hca:c<ii.length
  ·rw[if_pos hca,getD_app_left hca];grind
  ·rw[if_neg hca,getD_app_right (by omega)];grind
 ·have hra':ii.length≤r:=by omega
  have e:sm (fun t=>(if ii.length≤r∧t<ii.length then -mulM ii.length (sub M oo ii) N (r - ii.length) t else 0)*sub M (ii ++ oo) (ii ++ oo) t c) n=-1*sm (fun t=>mulM ii.length (sub M oo ii) N (r - ii.length) t*M (ii.getD t 0) ((ii ++ oo).getD c 0)) ii.length:=by
   rw[←hlen,sm_split,sm_congr (F:=fun c_1=>_) (G:=fun _=>0) oo.length fun t ht=>by rw[if_neg (by omega)];grind,sm_zero,←sm_mul]
   rw[sm_congr (G:=fun t=>-1*(mulM ii.length (sub M oo ii) N (r - ii.length) t*M (ii.getD t 0) ((ii ++ oo).getD c 0))) ii.length fun t ht=>by
    rw[if_pos ⟨hra',ht⟩]
    unfold sub
    rw[getD_app_left ht];grind]
   grind
  rw[e]
  unfold blk4
  rw[if_neg hra]
  have hrow:sub M (ii ++ oo) (ii ++ oo) r c=M (oo.getD (r - ii.length) 0) ((ii ++ oo).getD c 0):=by
   unfold sub;rw[getD_app_right hra']
  rw[hrow]
  by_cases hca:c<ii.length
  ·rw[if_pos hca,getD_app_left hca]
   have hinv:sm (fun t=>mulM ii.length (sub M oo ii) N (r - ii.length) t*M (ii.getD t 0) (ii.getD c 0)) ii.length=M (oo.getD (r - ii.length) 0) (ii.getD c 0):=by
    have hz:=(hN (fun t=>if t=c then 1 else 0) (fun t=>sub M ii ii t c)).1 (fun i hi=>by
     show sm (fun k=>sub M ii ii i k*(if k=c then 1 else 0)) ii.length=_
     rw[sm_one (k:=c) hca fun t _ ht=>by rw[if_neg ht];grind,if_pos rfl];grind)
    have e2:=mv_mulM ii.length ii.length (sub M oo ii) N (fun t=>sub M ii ii t c) (r - ii.length)
    rw[mv_eqv (sub M oo ii) (y:=fun t=>if t=c then 1 else 0) (fun i hi=>(hz i hi).symm)] at e2
    refine(show _=Gus.mv ii.length (mulM ii.length (sub M oo ii) N) (fun t=>sub M ii ii t c) (r - ii.length) from rfl).trans (e2.trans ?_)
    show sm (fun k=>sub M oo ii (r - ii.length) k*(if k=c then 1 else 0)) ii.length=_
    rw[sm_one (k:=c) hca fun t _ ht=>by rw[if_neg ht];grind,if_pos rfl]
    unfold sub;grind
   rw[hinv];grind
  ·rw[if_neg hca,getD_app_right (by omega)]
   show _=sub M oo oo (r - ii.length) (c - ii.length) - mulM ii.length (mulM ii.length (sub M oo ii) N) (sub M ii oo) (r - ii.length) (c - ii.length)
   unfold sub mulM
   grind
end Gus
end
section
namespace Gus
open Go Go.RowKit
inductive MPlan where
 | done
 | quiet (i:Nat) (r:MPlan)
 | one (i:Nat) (r:MPlan)
 | two (i j:Nat) (r s:MPlan)
def MPlan.len:MPlan→Nat
 | .done=>0
 | .quiet _ r=>r.len+1
 | .one _ r=>r.len+1
 | .two _ _ r _=>r.len+1
section
variable {P:Program} {ops:Array Oper} {Q:Exit→Act→World→Prop} {md:Region.Mode} {S:World→Prop} {n:Nat}
def wpMixT (P:Program) (ops:Array Oper) (Q:Exit→Act→World→Prop) (S:World→Prop) (n:Nat):MPlan→Act→World→Prop
 | .done,a,w=>Q .normal a w
 | .quiet i r,a,w=>∃ o v,ops[i]?=some o∧YieldsIf P ops S o v a∧wpMixT P ops Q S n r (a.put o.dst v) w
 | .one i r,a,w=>wpOp P ops Q i (fun a' w'=>(i<n→S w')∧wpMixT P ops Q S n r a' w') a w
 | .two i j r s,a,w=>wpOp P ops Q i (fun a' w'=>(i<n→S w')∧wpMixT P ops Q S n r a' w') a w∧wpOp P ops Q j (fun a' w'=>(j<n→S w')∧wpMixT P ops Q S n s a' w') a w
def mixTB (md:Region.Mode) (ops:Array Oper) (n:Nat):MPlan→Array Bool→Bool
 | .done,listed=>(Region.ready md ops listed).isEmpty
 | .quiet i r,listed=>decide (i<n) && (Region.ready md ops listed).contains i && Region.free md ops listed i && mixTB md ops n r (listed.setIfInBounds i true)
 | .one i r,listed=>decide (Region.ready md ops listed=[i]) && mixTB md ops n r (listed.setIfInBounds i true)
 | .two i j r s,listed=>decide (Region.ready md ops listed=[i,j]) && decide (r.len=s.len) && mixTB md ops n r (listed.setIfInBounds i true) && mixTB md ops n s (listed.setIfInBounds j true)
def MPlan.loud:MPlan→Bool
 | .done=>true
 | .quiet _ _=>false
 | .one _ r=>r.loud
 | .two _ _ _ _=>false
def MPlan.ord (n:Nat):MPlan→Bool
 | .done=>true
 | .quiet i r=>decide (i<n) && r.ord n
 | .one i r=>(decide (i<n)|| r.loud) && r.ord n
 | .two i j r s=>decide (i<n) && decide (j<n) && r.ord n && s.ord n
theorem wpAnyT_of_loud:∀ (plan:MPlan) (listed:Array Bool) (a:Act) (w:World),plan.loud=true→mixTB md ops n plan listed=true→wpMixT P ops Q S n plan a w→wpAnyL P md ops Q S n plan.len listed a w
 | .done,listed,a,w,_,hB,h=>by
  simp only[mixTB,List.isEmpty_iff] at hB
  exact⟨hB,h⟩
 | .quiet i r,listed,a,w,hl,_,_=>by simp[MPlan.loud] at hl
 | .two i j r s,listed,a,w,hl,_,_=>by simp[MPlan.loud] at hl
 | .one i r,listed,a,w,hl,hB,h=>by
  simp only[mixTB,Bool.and_eq_true,decide_eq_true_eq] at hB
  refine⟨fun h0=>absurd (hB.1 ▸ h0) (by simp),fun j hj=>?_⟩
  rw[hB.1] at hj
  obtain rfl:j=i:=by simpa using hj
  exact wpOp_mono (fun a' w' h'=>⟨h'.1,wpAnyT_of_loud r _ _ _ hl hB.2 h'.2⟩) h
theorem wpAnyT_of_mix (hs:Region.noSelect ops=true) (hk:Region.sinkB md ops n=true) (hc:Region.chainB md ops n=true) (hn:n<ops.size) (hQ:∀ c a d v w,Q (.panic c) (Act.put a d v) w→Q (.panic c) a w) :
  ∀ (plan:MPlan) (listed:Array Bool) (a:Act) (w:World),HeadInv md ops n listed→plan.ord n=true→mixTB md ops n plan listed=true→S w→wpMixT P ops Q S n plan a w→wpAnyL P md ops Q S n plan.len listed a w
 | .done,listed,a,w,_,_,hB,_,h=>by
  simp only[mixTB,List.isEmpty_iff] at hB
  exact⟨hB,h⟩
 | .quiet i r,listed,a,w,inv,ho,hB,hS,h=>by
  simp only[mixTB,Bool.and_eq_true,decide_eq_true_eq] at hB
  simp only[MPlan.ord,Bool.and_eq_true] at ho
  obtain⟨o,v,hoi,hy,hk'⟩:=h
  have hr:i∈Region.ready md ops listed:=by simpa using hB.1.1.2
  exact wpAnyL_first hoi (Region.noSelect_spec hs) hk hc hn hB.1.1.1 (fun c a w h=>hQ c a o.dst v w h) _ listed a w inv (Region.free_spec hoi hB.1.2) hr hy hS (wpAnyT_of_mix hs hk hc hn hQ r _ _ _ (inv.set hr hB.1.1.1) ho.2 hB.2 hS hk')
 | .one i r,listed,a,w,inv,ho,hB,hS,h=>by
  simp only[mixTB,Bool.and_eq_true,decide_eq_true_eq] at hB
  simp only[MPlan.ord,Bool.and_eq_true,Bool.or_eq_true,decide_eq_true_eq] at ho
  refine⟨fun h0=>absurd (hB.1 ▸ h0) (by simp),fun j hj=>?_⟩
  have hj0:=hj
  rw[hB.1] at hj
  obtain rfl:j=i:=by simpa using hj
  refine wpOp_mono (fun a' w' h'=>⟨h'.1, ?_⟩) h
  rcases Nat.lt_or_ge j n with hlt | hge
  ·exact wpAnyT_of_mix hs hk hc hn hQ r _ _ _ (inv.set hj0 hlt) ho.2 hB.2 (h'.1 hlt) h'.2
  ·rcases ho.1 with h1 | h1
   ·omega
   ·exact wpAnyT_of_loud r _ _ _ h1 hB.2 h'.2
 | .two i j r s,listed,a,w,inv,ho,hB,hS,h=>by
  simp only[mixTB,Bool.and_eq_true,decide_eq_true_eq] at hB
  simp only[MPlan.ord,Bool.and_eq_true,decide_eq_true_eq] at ho
  obtain⟨⟨⟨hr,hlen⟩,hB1⟩,hB2⟩:=hB
  obtain⟨⟨⟨hi,hj⟩,ho1⟩,ho2⟩:=ho
  refine⟨fun h0=>absurd (hr ▸ h0) (by simp),fun t ht=>?_⟩
  have ht0:=ht
  rw[hr] at ht
  simp only[List.mem_cons,List.not_mem_nil,or_false] at ht
  rcases ht with rfl | rfl
  ·exact wpOp_mono (fun a' w' h'=>⟨h'.1,wpAnyT_of_mix hs hk hc hn hQ r _ _ _ (inv.set ht0 hi) ho1 hB1 (h'.1 hi) h'.2⟩) h.1
  ·refine wpOp_mono (fun a' w' h'=>⟨h'.1, ?_⟩) h.2
   rw[hlen]
   exact wpAnyT_of_mix hs hk hc hn hQ s _ _ _ (inv.set ht0 hj) ho2 hB2 (h'.1 hj) h'.2
theorem mixT_take {i:Nat} {r:MPlan} {o:Oper} {a:Act} {w:World} {v:Value} (ho:ops.toList[i]?=some o) (hw:Region.wanted o (yielded ops a.tmps)=true)
  (h:∀ w,S w→(execOp a.eval o).run P w=.ok (.value v) w) (hk:wpMixT P ops Q S n r (a.put o.dst v) w):wpMixT P ops Q S n (.quiet i r) a w:=⟨o,v,by rw[←Array.getElem?_toList];exact ho,.inl ⟨hw,h⟩,hk⟩
theorem opT_run {i:Nat} {r:MPlan} {o:Oper} {a:Act} {w:World} (ho:ops.toList[i]?=some o) (hw:Region.wanted o (yielded ops a.tmps)=true)
  (h:∀ K:Act→World→Prop,(∀ a w,(i<n→S w)→wpMixT P ops Q S n r a w→K a w)→o.wp P a w K Q):wpOp P ops Q i (fun a' w'=>(i<n→S w')∧wpMixT P ops Q S n r a' w') a w:=by
 rw[Array.getElem?_toList] at ho
 unfold wpOp
 simp only[ho,hw,if_true]
 exact .inl (h _ fun a w hS hk=>⟨hS,hk⟩)
theorem mixT_run {i:Nat} {r:MPlan} {o:Oper} {a:Act} {w:World} (ho:ops.toList[i]?=some o) (hw:Region.wanted o (yielded ops a.tmps)=true)
  (h:∀ K:Act→World→Prop,(∀ a w,(i<n→S w)→wpMixT P ops Q S n r a w→K a w)→o.wp P a w K Q):wpMixT P ops Q S n (.one i r) a w:=opT_run ho hw h
theorem mixT_both {i j:Nat} {r s:MPlan} {o o':Oper} {a:Act} {w:World} (ho:ops.toList[i]?=some o) (hw:Region.wanted o (yielded ops a.tmps)=true) (ho':ops.toList[j]?=some o') (hw':Region.wanted o' (yielded ops a.tmps)=true)
  (h:∀ K:Act→World→Prop,(∀ a w,(i<n→S w)→wpMixT P ops Q S n r a w→K a w)→o.wp P a w K Q) (h':∀ K:Act→World→Prop,(∀ a w,(j<n→S w)→wpMixT P ops Q S n s a w→K a w)→o'.wp P a w K Q):wpMixT P ops Q S n (.two i j r s) a w:=⟨opT_run ho hw h,opT_run ho' hw' h'⟩
theorem mixT_done {a:Act} {w:World} (h:Q .normal a w):wpMixT P ops Q S n .done a w:=h
theorem wp_region_mixT {id:Nat} {a:Act} {w:World} {l:List Oper} (S:World→Prop) (n:Nat) (plan:MPlan) (hm:P.follows .mixedOrders=true) (hs:Region.noSelect l.toArray=true) (hl:plan.len=l.toArray.size)
  (hn:decide (n<l.toArray.size)=true) (hk:Region.sinkB .any l.toArray n=true) (hc:Region.chainB .any l.toArray n=true) (ho:plan.ord n=true)
  (hB:mixTB .any l.toArray n plan (Array.replicate l.toArray.size false)=true) (hQ:∀ c a d v w,Q (.panic c) (Act.put a d v) w→Q (.panic c) a w) (hS:S w.drew) (h:wpMixT P l.toArray Q S n plan a w.drew):(Code.region id l.toArray true).wp P Q a w:=by
 refine wp_region_any hm ?_
 have key:=wpAnyT_of_mix (P:=P) (Q:=Q) (S:=S) hs hk hc (by simpa using hn) hQ plan (Array.replicate l.toArray.size false) a w.drew ⟨by simp,fun j oj _ hl=>(by rw[getD_replicate_false] at hl;cases hl),fun t _ ht=>Go.getD_in (by rw[Array.size_replicate];exact ht) (getD_replicate_false _ _)⟩ ho hB hS h
 rw[hl] at key
 exact wpAny_of_L (S:=S) (n:=n) _ _ _ _ key
end
end Gus
end
