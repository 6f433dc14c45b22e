/- Proved here: parts of the proof: KSha KShb KShc KShd. Conditions: those that each theorem states. -/
import Derived.Test.YthblojaeoiemmaaGreatDoorKElmQ
section
namespace Gus
def ls (F:Nat→Rat):List Nat→Rat
 | []=>0
 | a :: l=>F a+ls F l
theorem ls_append (F:Nat→Rat) (a b:List Nat):ls F (a ++ b)=ls F a+ls F b:=by
 induction a with
 | nil=>simp only[List.nil_append,ls];grind
 | cons x a ih=>simp only[List.cons_append,ls,ih];grind
theorem ls_perm {F:Nat→Rat} {a b:List Nat} (h:a.Perm b):ls F a=ls F b:=by
 induction h with
 | nil=>rfl
 | cons x _ ih=>simp only[ls,ih]
 | swap x y l=>simp only[ls];grind
 | trans _ _ h1 h2=>exact h1.trans h2
theorem ls_range (F:Nat→Rat) (n:Nat):ls F (List.range n)=sm F n:=by
 induction n with
 | zero=>rfl
 | succ n ih=>rw[List.range_succ,ls_append,ih];simp only[ls,sm];grind
theorem sm_shift (F:Nat→Rat):∀ n,sm F (n+1)=F 0+sm (fun i=>F (i+1)) n
 | 0=>by simp only[sm];grind
 | n+1=>by
  have h:=sm_shift F n
  show sm F (n+1)+F (n+1)=F 0+(sm (fun i=>F (i+1)) n+F (n+1))
  rw[h];grind
theorem ls_sm (F:Nat→Rat):∀ l:List Nat,ls F l=sm (fun r=>F (l.getD r 0)) l.length
 | []=>rfl
 | a :: l=>by
  rw[List.length_cons,sm_shift]
  simp only[ls,ls_sm F l];rfl
structure Split (n:Nat) (ii oo:List Nat):Prop where
 perm:(ii ++ oo).Perm (List.range n)
theorem Split.sum {n:Nat} {ii oo:List Nat} (h:Split n ii oo) (F:Nat→Rat):sm F n=sm (fun r=>F (ii.getD r 0)) ii.length+sm (fun r=>F (oo.getD r 0)) oo.length:=by
 rw[←ls_range,←ls_perm h.perm,ls_append,ls_sm,ls_sm]
theorem Split.len {n:Nat} {ii oo:List Nat} (h:Split n ii oo):ii.length+oo.length=n:=by
 have:=h.perm.length_eq;simpa using this
theorem Split.lt {n:Nat} {ii oo:List Nat} (h:Split n ii oo) {i:Nat} (hi:i∈ii∨i∈oo):i<n:=
 List.mem_range.1 (h.perm.mem_iff.1 (List.mem_append.2 hi))
theorem Split.cover {n:Nat} {ii oo:List Nat} (h:Split n ii oo) {i:Nat} (hi:i<n):i∈ii∨i∈oo:=
 List.mem_append.1 (h.perm.mem_iff.2 (List.mem_range.2 hi))
theorem Split.nodup {n:Nat} {ii oo:List Nat} (h:Split n ii oo):(ii ++ oo).Nodup:=h.perm.nodup_iff.2 List.nodup_range
def sub (M:Mx) (rows cols:List Nat):Mx:=fun r c=>M (rows.getD r 0) (cols.getD c 0)
def rs (l:List Nat) (x:Vc):Vc:=fun r=>x (l.getD r 0)
theorem Split.mv {n:Nat} {ii oo:List Nat} (h:Split n ii oo) (M:Mx) (x:Vc) (l:List Nat) (r:Nat) :
  mv n M x (l.getD r 0)=Gus.mv ii.length (sub M l ii) (rs ii x) r+Gus.mv oo.length (sub M l oo) (rs oo x) r:=h.sum fun c=>M (l.getD r 0) c*x c
theorem mem_getD {l:List Nat} {i:Nat} (h:i∈l):∃ r,r<l.length∧l.getD r 0=i:=by
 obtain⟨r,hr,e⟩:=List.getElem_of_mem h
 exact⟨r,hr,by rw[List.getD_eq_getElem?_getD,List.getElem?_eq_getElem hr];exact e⟩
def put2 (ii oo:List Nat) (u y:Vc):Vc:=fun i=>if i∈ii then u (ii.idxOf i) else y (oo.idxOf i)
theorem idx_getD {l:List Nat} (hn:l.Nodup) {r:Nat} (hr:r<l.length):l.idxOf (l.getD r 0)=r:=by
 rw[List.getD_eq_getElem?_getD,List.getElem?_eq_getElem hr]
 exact hn.idxOf_getElem r hr
theorem getD_in {l:List Nat} {r:Nat} (h:r<l.length):l.getD r 0∈l:=by
 rw[List.getD_eq_getElem?_getD,List.getElem?_eq_getElem h];exact List.getElem_mem h
theorem Split.put_in {n:Nat} {ii oo:List Nat} (h:Split n ii oo) (u y:Vc) {r:Nat} (hr:r<ii.length):rs ii (put2 ii oo u y) r=u r:=by
 have hn:=(List.nodup_append.1 h.nodup).1
 unfold rs put2
 rw[if_pos (getD_in hr),idx_getD hn hr]
theorem Split.put_out {n:Nat} {ii oo:List Nat} (h:Split n ii oo) (u y:Vc) {r:Nat} (hr:r<oo.length):rs oo (put2 ii oo u y) r=y r:=by
 obtain⟨_,hn,hd⟩:=List.nodup_append.1 h.nodup
 unfold rs put2
 rw[if_neg (fun hi=>hd _ hi _ (getD_in hr) rfl),idx_getD hn hr]
theorem mv_congr' {m:Nat} {A B:Mx} {x y:Vc} {i:Nat} (hA:∀ k,k<m→A i k=B i k) (hx:∀ k,k<m→x k=y k):mv m A x i=mv m B y i:=sm_congr m fun k hk=>by rw[hA k hk,hx k hk]
def EqV (n:Nat) (u v:Vc):Prop:=∀ i,i<n→u i=v i
theorem mv_eqv {m:Nat} (A:Mx) {x y:Vc} (h:EqV m x y) (i:Nat):mv m A x i=mv m A y i:=mv_congr' (fun _ _=>rfl) h
theorem mv_add (m:Nat) (A:Mx) (x y:Vc) (i:Nat):mv m A (fun k=>x k+y k) i=mv m A x i+mv m A y i:=by
 show sm (fun k=>A i k*(x k+y k)) m=sm (fun k=>A i k*x k) m+sm (fun k=>A i k*y k) m
 rw[←sm_add];exact sm_congr m fun k _=>by grind
theorem mv_smul (m:Nat) (A:Mx) (c:Rat) (x:Vc) (i:Nat):mv m A (fun k=>c*x k) i=c*mv m A x i:=by
 show sm (fun k=>A i k*(c*x k)) m=c*sm (fun k=>A i k*x k) m
 rw[←sm_mul];exact sm_congr m fun k _=>by grind
theorem mv_sub (m:Nat) (A:Mx) (x y:Vc) (i:Nat):mv m A (fun k=>x k - y k) i=mv m A x i - mv m A y i:=by
 have h1:=mv_add m A x (fun k=>-1*y k) i
 rw[mv_smul] at h1
 rw[mv_congr' (B:=A) (y:=fun k=>x k+-1*y k) (fun _ _=>rfl) (fun k _=>by grind),h1];grind
theorem mv_zero (m:Nat) (A:Mx) (i:Nat):mv m A (fun _=>0) i=0:=by
 show sm (fun k=>A i k*0) m=0
 rw[sm_congr m (G:=fun _=>0) fun k _=>by grind,sm_zero]
def mulM (k:Nat) (A B:Mx):Mx:=fun i j=>sm (fun t=>A i t*B t j) k
theorem mv_mulM (k m:Nat) (A B:Mx) (y:Vc) (i:Nat):mv m (mulM k A B) y i=mv k A (mv m B y) i:=by
 show sm (fun j=>sm (fun t=>A i t*B t j) k*y j) m=sm (fun t=>A i t*sm (fun j=>B t j*y j) m) k
 have e1:sm (fun j=>sm (fun t=>A i t*B t j) k*y j) m=sm (fun j=>sm (fun t=>y j*(A i t*B t j)) k) m:=sm_congr m fun j _=>by rw[sm_mul];grind
 have e2:sm (fun t=>A i t*sm (fun j=>B t j*y j) m) k=sm (fun t=>sm (fun j=>y j*(A i t*B t j)) m) k:=sm_congr k fun t _=>by
  rw[←sm_mul];exact sm_congr m fun j _=>by grind
 rw[e1,e2,sm_swap]
def IsInv (n:Nat) (B N:Mx):Prop:=∀ u v:Vc,EqV n (mv n B u) v↔EqV n u (mv n N v)
def NS (n:Nat) (A:Mx):Prop:=∀ x:Vc,EqV n (mv n A x) (fun _=>0)→EqV n x fun _=>0
theorem IsInv.ns {n:Nat} {B N:Mx} (h:IsInv n B N):NS n B:=fun x hx=>fun i hi=>by
 rw[(h x fun _=>0).1 hx i hi,mv_zero]
def schur (M:Mx) (ii oo:List Nat) (N:Mx):Mx:=fun i k=>sub M oo oo i k - mulM ii.length (mulM ii.length (sub M oo ii) N) (sub M ii oo) i k
theorem mv_schur (M:Mx) (ii oo:List Nat) (N:Mx) (y:Vc) (i:Nat):mv oo.length (schur M ii oo N) y i=mv oo.length (sub M oo oo) y i - mv ii.length (sub M oo ii) (mv ii.length N (mv oo.length (sub M ii oo) y)) i:=by
 rw[←mv_mulM,←mv_mulM]
 have h1:sm (fun k=>(sub M oo oo i k - mulM ii.length (mulM ii.length (sub M oo ii) N) (sub M ii oo) i k)*y k) oo.length=sm (fun k=>sub M oo oo i k*y k+-1*(mulM ii.length (mulM ii.length (sub M oo ii) N) (sub M ii oo) i k*y k)) oo.length:=sm_congr _ fun k _=>by grind
 show sm (fun k=>(sub M oo oo i k - mulM ii.length (mulM ii.length (sub M oo ii) N) (sub M ii oo) i k)*y k) oo.length=sm (fun k=>sub M oo oo i k*y k) oo.length - sm (fun k=>mulM ii.length (mulM ii.length (sub M oo ii) N) (sub M ii oo) i k*y k) oo.length
 rw[h1,sm_add,sm_mul];grind
theorem schur_iff {M:Mx} {ii oo:List Nat} {N:Mx} (hN:IsInv ii.length (sub M ii ii) N) (u y f g:Vc) :
  (EqV ii.length (fun r=>mv ii.length (sub M ii ii) u r+mv oo.length (sub M ii oo) y r) f∧EqV oo.length (fun r=>mv ii.length (sub M oo ii) u r+mv oo.length (sub M oo oo) y r) g) ↔
  (EqV ii.length u (mv ii.length N fun t=>f t - mv oo.length (sub M ii oo) y t)∧EqV oo.length (mv oo.length (schur M ii oo N) y) fun r=>g r - mv ii.length (sub M oo ii) (mv ii.length N f) r):=by
 have hu:EqV ii.length (fun r=>mv ii.length (sub M ii ii) u r+mv oo.length (sub M ii oo) y r) f↔EqV ii.length u (mv ii.length N fun t=>f t - mv oo.length (sub M ii oo) y t):=by
  rw[←hN u]
  exact⟨fun h i hi=>by have:=h i hi;show mv _ _ _ _=f i - _;rw[←this];grind,fun h i hi=>by show mv _ _ _ _+_=_;rw[h i hi];grind⟩
 rw[hu]
 refine and_congr_right fun h=>?_
 have e:∀ r,mv ii.length (sub M oo ii) u r+mv oo.length (sub M oo oo) y r=mv oo.length (schur M ii oo N) y r+mv ii.length (sub M oo ii) (mv ii.length N f) r:=fun r=>by
  rw[mv_eqv (sub M oo ii) h r,mv_eqv (sub M oo ii) (x:=mv ii.length N fun t=>f t - mv oo.length (sub M ii oo) y t) (y:=fun k=>mv ii.length N f k - mv ii.length N (mv oo.length (sub M ii oo) y) k) (fun k _=>mv_sub _ _ _ _ _),mv_sub,mv_schur];grind
 exact⟨fun h i hi=>by have h1:=(e i).symm.trans (h i hi);show _=g i - _;rw[←h1];grind,fun h i hi=>(e i).trans (by rw[h i hi];grind)⟩
theorem Split.system {n:Nat} {ii oo:List Nat} (hs:Split n ii oo) {M N:Mx} (hN:IsInv ii.length (sub M ii ii) N) (x b:Vc) :
  EqV n (Gus.mv n M x) b↔(EqV ii.length (rs ii x) (Gus.mv ii.length N fun t=>rs ii b t - Gus.mv oo.length (sub M ii oo) (rs oo x) t)∧EqV oo.length (Gus.mv oo.length (schur M ii oo N) (rs oo x)) fun r=>rs oo b r - Gus.mv ii.length (sub M oo ii) (Gus.mv ii.length N (rs ii b)) r):=by
 rw[←schur_iff hN]
 refine⟨fun h=>⟨fun r hr=>?_,fun r hr=>?_⟩,fun⟨h1,h2⟩ i hi=>?_⟩
 ·have:=h (ii.getD r 0) (hs.lt (.inl (getD_in hr)));rwa [hs.mv] at this
 ·have:=h (oo.getD r 0) (hs.lt (.inr (getD_in hr)));rwa [hs.mv] at this
 ·rcases hs.cover hi with h | h
  ·obtain⟨r,hr,rfl⟩:=mem_getD h
   rw[hs.mv];exact h1 r hr
  ·obtain⟨r,hr,rfl⟩:=mem_getD h
   rw[hs.mv];exact h2 r hr
theorem Split.eqv {n:Nat} {ii oo:List Nat} (hs:Split n ii oo) {x y:Vc} (h1:EqV ii.length (rs ii x) (rs ii y)) (h2:EqV oo.length (rs oo x) (rs oo y)):EqV n x y:=fun i hi=>by
 rcases hs.cover hi with h | h
 ·obtain⟨r,hr,rfl⟩:=mem_getD h;exact h1 r hr
 ·obtain⟨r,hr,rfl⟩:=mem_getD h;exact h2 r hr
theorem Split.ns {n:Nat} {ii oo:List Nat} (hs:Split n ii oo) {M N:Mx} (hN:IsInv ii.length (sub M ii ii) N):NS oo.length (schur M ii oo N)↔NS n M:=by
 have hz:∀ k,Gus.mv ii.length N (rs ii fun _=>0) k=0:=fun k=>mv_zero _ _ _
 have hz2:∀ r,Gus.mv ii.length (sub M oo ii) (Gus.mv ii.length N (rs ii fun _=>0)) r=0:=fun r=>by
  rw[mv_eqv (y:=fun _=>0) _ (fun k _=>hz k)];exact mv_zero _ _ _
 constructor
 ·intro h x hx
  obtain⟨h1,h2⟩:=(hs.system hN x fun _=>0).1 hx
  have h3:=h (rs oo x) fun r hr=>(h2 r hr).trans (by show(0:Rat) - _=0;rw[hz2];grind)
  refine hs.eqv (fun r hr=>?_) (fun r hr=>h3 r hr)
  rw[h1 r hr,mv_eqv (y:=fun _=>0) _ (fun k _=>?_)];exact mv_zero _ _ _
  show(0:Rat) - _=0
  rw[mv_eqv (y:=fun _=>0) _ h3,mv_zero];grind
 ·intro h y hy
  have h1:=h (put2 ii oo (Gus.mv ii.length N fun t=>0 - Gus.mv oo.length (sub M ii oo) y t) y) ((hs.system hN _ fun _=>0).2 ⟨fun r hr=>?_,fun r hr=>?_⟩)
  ·intro r hr
   have:=h1 (oo.getD r 0) (hs.lt (.inr (getD_in hr)))
   rw[←hs.put_out (Gus.mv ii.length N fun t=>0 - Gus.mv oo.length (sub M ii oo) y t) y hr];exact this
  ·rw[hs.put_in _ _ hr]
   exact mv_eqv _ (fun k _=>by
    show(0:Rat) - _=0 - _
    rw[mv_eqv (sub M ii oo) (fun r hr=>(hs.put_out _ _ hr).symm)]) _
  ·rw[mv_eqv _ (y:=y) (fun r hr=>hs.put_out _ _ hr),hy r hr];show(0:Rat)=0 - _;rw[hz2];grind
end Gus
end
section
namespace Gus
theorem asc_range:∀ (l:List Nat) (k:Nat),l.Pairwise (·<·)→(∀ p∈l,k≤p)→(∀ p∈l,p<k+l.length)→l=List.range' k l.length
 | [],_,_,_,_=>rfl
 | a :: l,k,h,h1,h2=>by
  obtain⟨ha,hl⟩:=List.pairwise_cons.1 h
  have ih:=asc_range l (k+1) hl (fun p hp=>by have:=ha p hp;have:=h1 a (.head _);omega) (fun p hp=>by have:=h2 p (.tail _ hp);rw[List.length_cons] at this;omega)
  have e:a=k:=by
   have h3:=h1 a (.head _)
   cases l with
   | nil=>have:=h2 a (.head _);simp at this;omega
   | cons b l=>
    have hb:b=k+1:=by
     have:=congrArg List.head? ih
     simpa[List.range'] using this
    have:=ha b (.head _);omega
  rw[List.length_cons,List.range'_succ,←ih,e]
theorem piv_range {n:Nat} {M:Mx} (h:(elim n M n).piv.length=n):(elim n M n).piv=List.range n:=by
 have hr:=elim_red n n M n
 have:=asc_range _ 0 hr.asc (fun _ _=>Nat.zero_le _) (fun p hp=>by rw[h,Nat.zero_add];exact hr.lt p hp)
 rw[h] at this
 rw[this,List.range_eq_range']
theorem one_of_range {n m:Nat} {M0:Mx} {s:El} (hr:Red n m n M0 s) (hp:s.piv=List.range n) {r c:Nat} (hr':r<n) (hc:c<n):s.M r c=if r=c then 1 else 0:=by
 have:=hr.one c r (by rw[hp,List.length_range];exact hc) hr'
 rwa [hp,range_getD hc] at this
theorem sm_delta {n r:Nat} (hr:r<n) (F G:Nat→Rat) (h:∀ c,c<n→F c=if r=c then 1 else 0):sm (fun c=>F c*G c) n=G r:=by
 rw[sm_one (k:=r) hr (fun c hc hn=>by rw[h c hc,if_neg (Ne.symm hn)];grind),h r hr,if_pos rfl];grind
theorem full_ns {n:Nat} {M:Mx} (h:(elim n M n).piv.length=n):NS n M:=fun x hx r hr=>by
 have hd:=elim_red n n M n
 have hk:=(hd.ker x).2 fun r hr=>hx r hr
 have h1:=hk r hr
 rwa [sm_delta hr _ _ fun c hc=>one_of_range hd (piv_range h) hr hc] at h1
theorem full_iff {n:Nat} {M:Mx}:(elim n M n).piv.length=n↔NS n M:=
 ⟨full_ns,fun h=>by rw[elim_range (Nat.le_refl n) (fun y hy i hi=>h y (fun r hr=>hy r hr) i hi) n (Nat.le_refl _),List.length_range]⟩
theorem NS.congr {n:Nat} {A B:Mx} (h:∀ r c,r<n→c<n→A r c=B r c):NS n A↔NS n B:=
 ⟨fun k x hx=>k x fun r hr=>(mv_congr' (fun c hc=>h r c hr hc) fun _ _=>rfl).trans (hx r hr),fun k x hx=>k x fun r hr=>(mv_congr' (fun c hc=>(h r c hr hc).symm) fun _ _=>rfl).trans (hx r hr)⟩
theorem sm_split (F:Nat→Rat) (n:Nat):∀ m,sm F (n+m)=sm F n+sm (fun c=>F (n+c)) m
 | 0=>by simp only[sm,Nat.add_zero];grind
 | m+1=>by
  show sm F (n+m)+F (n+m)=sm F n+(sm (fun c=>F (n+c)) m+F (n+m))
  rw[sm_split F n m];grind
def augI (n:Nat) (A:Mx):Mx:=fun r c=>if c<n then A r c else if r=c - n then 1 else 0
def invM (n:Nat) (A:Mx):Mx:=fun r c=>(elim n (augI n A) n).M r (n+c)
theorem augI_ns {n:Nat} {A:Mx}:NS n (augI n A)↔NS n A:=NS.congr fun _ _ _ hc=>if_pos hc
def detE (n:Nat) (A:Mx):Rat:=if (elim n A n).piv.length<n then 0 else (elim n A n).det
end Gus
end
section
namespace Gus
def SC (n:Nat) (M:Mx) (ii oo:List Nat) (y g:Vc):Prop:=∃ x:Vc,EqV oo.length (rs oo x) y∧EqV ii.length (rs ii (mv n M x)) (fun _=>0)∧EqV oo.length (rs oo (mv n M x)) g
theorem Split.sc {n:Nat} {ii oo:List Nat} (hs:Split n ii oo) {M N:Mx} (hN:IsInv ii.length (sub M ii ii) N) (y g:Vc):EqV oo.length (Gus.mv oo.length (schur M ii oo N) y) g↔SC n M ii oo y g:=by
 have hz:∀ b:Vc,EqV ii.length (rs ii b) (fun _=>0)→∀ r,Gus.mv ii.length (sub M oo ii) (Gus.mv ii.length N (rs ii b)) r=0:=fun b hb r=>by
  rw[mv_eqv (y:=fun _=>0) _ (fun k _=>by rw[mv_eqv N hb,mv_zero]),mv_zero]
 constructor
 ·intro h
  have hb1:EqV ii.length (rs ii (put2 ii oo (fun _=>0) g)) (fun _=>0):=fun r hr=>hs.put_in _ _ hr
  refine⟨put2 ii oo (Gus.mv ii.length N fun t=>0 - Gus.mv oo.length (sub M ii oo) y t) y,fun r hr=>hs.put_out _ _ hr, ?_⟩
  have hsys:=(hs.system hN (put2 ii oo (Gus.mv ii.length N fun t=>0 - Gus.mv oo.length (sub M ii oo) y t) y) (put2 ii oo (fun _=>0) g)).2 ⟨fun r hr=>by
   rw[hs.put_in _ _ hr]
   exact mv_eqv N (fun k hk=>by rw[hb1 k hk,mv_eqv (sub M ii oo) (fun r hr=>(hs.put_out _ _ hr).symm)]) _,fun r hr=>by
   rw[mv_eqv _ (y:=y) (fun r hr=>hs.put_out _ _ hr),h r hr]
   show g r=rs oo (put2 ii oo (fun _=>0) g) r - _
   rw[hz _ hb1,hs.put_out _ _ hr];grind⟩
  exact⟨fun r hr=>(hsys _ (hs.lt (.inl (getD_in hr)))).trans (hb1 r hr),fun r hr=>(hsys _ (hs.lt (.inr (getD_in hr)))).trans (hs.put_out _ _ hr)⟩
 ·rintro⟨x,h1,h2,h3⟩ r hr
  obtain⟨_,h5⟩:=(hs.system hN x (Gus.mv n M x)).1 fun _ _=>rfl
  have:=h5 r hr
  rw[mv_eqv _ (y:=y) h1] at this
  rw[this]
  show rs oo (Gus.mv n M x) r - _=g r
  rw[h3 r hr,hz _ h2];grind
theorem Split.inv {n:Nat} {ii oo:List Nat} (hs:Split n ii oo) {M N W:Mx} (hN:IsInv ii.length (sub M ii ii) N) (hW:IsInv n M W):IsInv oo.length (schur M ii oo N) (sub W oo oo):=fun y g=>by
 have hput:∀ x:Vc,EqV n (Gus.mv n M x) (put2 ii oo (fun _=>0) g)↔(EqV ii.length (rs ii (Gus.mv n M x)) (fun _=>0)∧EqV oo.length (rs oo (Gus.mv n M x)) g):=fun x=>
  ⟨fun h=>⟨fun r hr=>(h _ (hs.lt (.inl (getD_in hr)))).trans (hs.put_in _ _ hr),fun r hr=>(h _ (hs.lt (.inr (getD_in hr)))).trans (hs.put_out _ _ hr)⟩,
   fun⟨h1,h2⟩=>hs.eqv (fun r hr=>(h1 r hr).trans (hs.put_in (fun _=>0) g hr).symm) (fun r hr=>(h2 r hr).trans (hs.put_out (fun _=>0) g hr).symm)⟩
 have hw:∀ r,r<oo.length→Gus.mv n W (put2 ii oo (fun _=>0) g) (oo.getD r 0)=Gus.mv oo.length (sub W oo oo) g r:=fun r _=>by
  rw[hs.mv,mv_eqv (y:=fun _=>0) _ (fun k hk=>hs.put_in _ _ hk),mv_zero,mv_eqv (y:=g) _ (fun k hk=>hs.put_out _ _ hk)];grind
 rw[hs.sc hN]
 constructor
 ·rintro⟨x,h1,h2⟩ r hr
  have:=(hW x _).1 ((hput x).2 h2) _ (hs.lt (.inr (getD_in hr)))
  rw[←h1 r hr];show x (oo.getD r 0)=_;rw[this,hw r hr]
 ·intro h
  refine⟨Gus.mv n W (put2 ii oo (fun _=>0) g),fun r hr=>?_,(hput _).1 ((hW _ _).2 fun _ _=>rfl)⟩
  rw[h r hr];exact hw r hr
structure Sub2 (oo two out:List Nat) (mo re:List Nat):Prop where
 split:Split oo.length mo re
 two:mo.map (fun k=>oo.getD k 0)=two
 out:re.map (fun k=>oo.getD k 0)=out
theorem map_getD (l:List Nat) (f:Nat→Nat) {r:Nat} (h:r<l.length):(l.map f).getD r 0=f (l.getD r 0):=by
 simp[List.getD_eq_getElem?_getD,List.getElem?_map,List.getElem?_eq_getElem h]
theorem Sub2.len {oo two out mo re:List Nat} (h:Sub2 oo two out mo re):two.length=mo.length∧out.length=re.length:=by
 rw[←h.two,←h.out,List.length_map,List.length_map];exact⟨rfl,rfl⟩
theorem Split.join {n:Nat} {ii oo two out mo re:List Nat} (hs:Split n ii oo) (h2:Sub2 oo two out mo re):Split n (ii ++ two) out:=by
 refine⟨(List.Perm.trans ?_ hs.perm)⟩
 rw[List.append_assoc]
 refine List.Perm.append_left ii ?_
 rw[←h2.two,←h2.out,←List.map_append]
 refine(h2.split.perm.map _).trans ?_
 have e:(List.range oo.length).map (fun k=>oo.getD k 0)=oo:=List.ext_getElem (by simp) fun i h1 h2=>by
  simp[List.getD_eq_getElem?_getD,List.getElem?_eq_getElem h2]
 rw[e]
theorem Sub2.ns {ii oo two out mo re:List Nat} (h2:Sub2 oo two out mo re) {M N:Mx} (hN:IsInv ii.length (sub M ii ii) N) :
  NS mo.length (sub (schur M ii oo N) mo mo)↔NS (ii ++ two).length (sub M (ii ++ two) (ii ++ two)):=by
 have hl:=h2.len
 have hS:Split (ii ++ two).length (List.range ii.length) (List.range' ii.length two.length):=⟨by
  have h:=List.range'_append_1 (s:=0) (m:=ii.length) (n:=two.length)
  rw[Nat.zero_add] at h
  rw[List.length_append,List.range_eq_range',List.range_eq_range',h]⟩
 have g1:∀ r,r<ii.length→(ii ++ two).getD ((List.range ii.length).getD r 0) 0=ii.getD r 0:=fun r hr=>by
  rw[range_getD hr,List.getD_eq_getElem?_getD,List.getElem?_append_left hr,←List.getD_eq_getElem?_getD]
 have g2:∀ r,r<two.length→(ii ++ two).getD ((List.range' ii.length two.length).getD r 0) 0=two.getD r 0:=fun r hr=>by
  have e:(List.range' ii.length two.length).getD r 0=ii.length+r:=by
   rw[List.getD_eq_getElem?_getD,List.getElem?_eq_getElem (by simpa using hr)];simp
  rw[e,List.getD_eq_getElem?_getD,List.getElem?_append_right (by omega),Nat.add_sub_cancel_left,←List.getD_eq_getElem?_getD]
 have hN':IsInv (List.range ii.length).length (sub (sub M (ii ++ two) (ii ++ two)) (List.range ii.length) (List.range ii.length)) N:=by
  rw[List.length_range]
  intro u v
  rw[←hN u v]
  have e:∀ r,r<ii.length→mv ii.length (sub (sub M (ii ++ two) (ii ++ two)) (List.range ii.length) (List.range ii.length)) u r=mv ii.length (sub M ii ii) u r:=fun r hr=>mv_congr' (fun k hk=>by
   show M ((ii ++ two).getD ((List.range ii.length).getD r 0) 0) ((ii ++ two).getD ((List.range ii.length).getD k 0) 0)=_
   rw[g1 r hr,g1 k hk];rfl) fun _ _=>rfl
  exact⟨fun h r hr=>(e r hr).symm.trans (h r hr),fun h r hr=>(e r hr).trans (h r hr)⟩
 rw[←hS.ns hN',List.length_range',←hl.1]
 refine NS.congr fun r c hr hc=>?_
 have t:∀ k,k<two.length→oo.getD (mo.getD k 0) 0=two.getD k 0:=fun k hk=>by rw[←h2.two,map_getD _ _ (by omega)]
 have e1:sub M oo oo (mo.getD r 0) (mo.getD c 0)=sub (sub M (ii ++ two) (ii ++ two)) (List.range' ii.length two.length) (List.range' ii.length two.length) r c:=by
  show M (oo.getD (mo.getD r 0) 0) (oo.getD (mo.getD c 0) 0)=M ((ii ++ two).getD _ 0) ((ii ++ two).getD _ 0)
  rw[t r hr,t c hc,g2 r hr,g2 c hc]
 show sub M oo oo (mo.getD r 0) (mo.getD c 0) - mulM ii.length (mulM ii.length (sub M oo ii) N) (sub M ii oo) (mo.getD r 0) (mo.getD c 0)=_ - mulM (List.range ii.length).length (mulM (List.range ii.length).length (sub (sub M (ii ++ two) (ii ++ two)) (List.range' ii.length two.length) (List.range ii.length)) N) (sub (sub M (ii ++ two) (ii ++ two)) (List.range ii.length) (List.range' ii.length two.length)) r c
 rw[e1,List.length_range]
 congr 1
 refine sm_congr _ fun k hk=>?_
 have e2:sub M ii oo k (mo.getD c 0)=sub (sub M (ii ++ two) (ii ++ two)) (List.range ii.length) (List.range' ii.length two.length) k c:=by
  show M (ii.getD k 0) (oo.getD (mo.getD c 0) 0)=M ((ii ++ two).getD _ 0) ((ii ++ two).getD _ 0)
  rw[t c hc,g2 c hc,g1 k hk]
 rw[e2]
 congr 1
 refine sm_congr _ fun j hj=>?_
 have e3:sub M oo ii (mo.getD r 0) j=sub (sub M (ii ++ two) (ii ++ two)) (List.range' ii.length two.length) (List.range ii.length) r j:=by
  show M (oo.getD (mo.getD r 0) 0) (ii.getD j 0)=M ((ii ++ two).getD _ 0) ((ii ++ two).getD _ 0)
  rw[t r hr,g2 r hr,g1 j hj]
 rw[e3]
end Gus
end
section
namespace Gus
def outer (n:Nat) (l:List Nat):List Nat:=(List.range n).filter fun i=>!l.contains i
theorem mem_outer {n:Nat} {l:List Nat} {i:Nat}:i∈outer n l↔i<n∧i ∉ l:=by
 unfold outer;rw[List.mem_filter,List.mem_range];simp
theorem outer_nodup (n:Nat) (l:List Nat):(outer n l).Nodup:=List.Nodup.sublist List.filter_sublist List.nodup_range
theorem perm_of_mem {a b:List Nat} (ha:a.Nodup) (hb:b.Nodup) (h:∀ i,i∈a↔i∈b):a.Perm b:=by
 rw[List.perm_iff_count]
 intro i
 rw[ha.count,hb.count]
 by_cases hi:i∈a
 ·rw[if_pos hi,if_pos ((h i).1 hi)]
 ·rw[if_neg hi,if_neg (fun k=>hi ((h i).2 k))]
theorem split_outer {n:Nat} {l:List Nat} (hn:l.Nodup) (hl:∀ i∈l,i<n):Split n l (outer n l):=by
 refine⟨perm_of_mem ?_ List.nodup_range fun i=>?_⟩
 ·exact List.nodup_append.2 ⟨hn,outer_nodup n l,fun a ha b hb e=>(mem_outer.1 hb).2 (e ▸ ha)⟩
 ·rw[List.mem_append,mem_outer,List.mem_range]
  exact⟨fun h=>h.elim (hl i) (·.1),fun h=>(Classical.em (i∈l)).elim .inl fun k=>.inr ⟨h,k⟩⟩
def places (oo two:List Nat):List Nat:=two.map fun i=>oo.idxOf i
theorem Split.extend {n:Nat} {ii oo:List Nat} (hs:Split n ii oo) {M N:Mx} (hN:IsInv ii.length (sub M ii ii) N) {x b y:Vc} (h1:EqV ii.length (rs ii x) (Gus.mv ii.length N fun t=>rs ii b t - Gus.mv oo.length (sub M ii oo) y t)) (h2:EqV oo.length (rs oo x) y) :
  ∀ r,r<ii.length→Gus.mv n M x (ii.getD r 0)=b (ii.getD r 0):=fun r hr=>by
 have:=(hN (rs ii x) _).2 h1 r hr
 rw[hs.mv,this,mv_eqv _ h2]
 show rs ii b r - _+_=rs ii b r
 grind
theorem Split.solves {n:Nat} {ii oo:List Nat} (hs:Split n ii oo) {M N:Mx} (hN:IsInv ii.length (sub M ii ii) N) {x b y:Vc} (h1:EqV ii.length (rs ii x) (Gus.mv ii.length N fun t=>rs ii b t - Gus.mv oo.length (sub M ii oo) y t)) (h2:EqV oo.length (rs oo x) y)
  (h3:EqV oo.length (Gus.mv oo.length (schur M ii oo N) y) fun r=>rs oo b r - Gus.mv ii.length (sub M oo ii) (Gus.mv ii.length N (rs ii b)) r):EqV n (Gus.mv n M x) b:=
 (hs.system hN x b).2 ⟨fun r hr=>(h1 r hr).trans (mv_eqv N (fun k _=>by rw[mv_eqv (sub M ii oo) (fun k hk=>(h2 k hk).symm)]) r),fun r hr=>(mv_eqv _ h2 r).trans (h3 r hr)⟩
end Gus
end
