/- Proved here: parts of the proof: KRwa KCgm. Conditions: those that each theorem states. -/
import Derived.Test.YthblojaeoiemmaaGreatDoorKPdnQ
section
namespace Gus
open Go Go.RowKit Go.Proofs
abbrev EQ:=Int×Int×Int
def eI (x:EQ):EntI:=(x.1,qOf x.2.1 x.2.2)
def RowF (w:World) (x:Value) (es:List EntI):Prop:=(x=.slice none 0 0∧es=[])∨∃ g cap cur,x=.slice (some ⟨g,0,none⟩) es.length cap∧w.heap[g]?=some (.cells cur 98 (0,0))∧cur.toList.take (es.length*6)=es.flatMap ecsI
theorem ecsI_length (e:EntI):(ecsI e).length=6:=rfl
theorem flatI_at:∀ (es:List EntI) (i j:Nat),i<es.length→j<6→(es.flatMap ecsI)[i*6+j]?=(ecsI (es.getD i (0,0)))[j]?
 | [],i,j,h,_=>absurd h (Nat.not_lt_zero _)
 | e :: es,0,j,_,hj=>by
  rw[List.flatMap_cons,Nat.zero_mul,Nat.zero_add,List.getElem?_append_left (by rw[ecsI_length];exact hj)];rfl
 | e :: es,i+1,j,h,hj=>by
  rw[List.flatMap_cons,List.getElem?_append_right (by rw[ecsI_length];omega),ecsI_length,show(i+1)*6+j - 6=i*6+j by omega,flatI_at es i j (by simpa using h) hj]
  rfl
theorem RowF.own {w:World} {base:Nat} {v:Value} {es:List EntI} (h:w.ownsRow base 98 6 v es.length (es.flatMap ecsI)):RowF w v es:=by
 rcases h.2 with ⟨rfl,hn⟩|⟨g,cap,cur,rfl,_,hg,_,_,_,h4⟩
 ·exact .inl ⟨rfl,List.length_eq_zero_iff.1 hn⟩
 ·exact .inr ⟨g,cap,cur,rfl,hg,h4⟩
theorem RowF.of_block {w w':World} {v:Value} {es:List EntI} (h:RowF w v es) (hb:∀ (g:Nat) (cur:Array Value),w.heap[g]?=some (Obj.cells cur 98 (0,0))→w'.heap[g]?=w.heap[g]?):RowF w' v es:=by
 rcases h with h |⟨g,cap,cur,rfl,hg,h4⟩
 ·exact .inl h
 ·exact .inr ⟨g,cap,cur,rfl,(hb g cur hg).trans hg,h4⟩
theorem RowF.call {w w':World} {v:Value} {es:List EntI} (h:RowF w v es) (hb:Below w.heap.size w w'):RowF w' v es:=h.of_block fun g _ hg=>hb.block g (Array.getElem?_eq_some_iff.1 hg).1
theorem RowF.g {w:World} {v:Value} {es:List EntI} (h:RowF w v es):RowG w v es:=by
 rcases h with ⟨rfl,rfl⟩|⟨g,cap,cur,rfl,hg,h4⟩
 ·exact⟨none,0,rfl,fun i hi=>absurd hi (Nat.not_lt_zero _)⟩
 ·refine⟨some ⟨g,0,none⟩,cap,rfl,fun i hi=>⟨g,0,rfl,(Array.getElem?_eq_some_iff.1 hg).1,fun j hj=>?_⟩⟩
  rw[←flatI_at es i j hi hj,cell_of_row w g _ _ _ _ hg,←h4,List.getElem?_take,if_pos (by omega),Array.getElem?_toList,Nat.zero_add]
theorem RowF.set {w:World} {v x:Value} {es:List EntI} {S:Nat} {cs:List Value} (h:RowF w v es) (hS:Bx w S 27 cs) (j:Nat):RowF (w.setCell ⟨S,j,none⟩ x) v es:=h.of_block fun g cur hg=>heap_setCell_other w ⟨S,j,none⟩ g x (by
 show g≠S
 rintro rfl
 have h6:w.heap[g]?=some (Obj.cells cs.toArray 27 (0,0)):=hS
 rw[h6] at hg
 injection hg with h7
 injection h7 with _ h8
 exact absurd h8 (by decide))
def OutF (w:World) (lo:Nat) (v:Value) (k:Nat) (es:List (List EQ)):Prop:=∃ vs,w.ownsRow lo 96 1 v k vs∧∀ i,i<k→RowF w (vs.getD i undef) ((es.getD i []).map eI)
theorem OutF.call {w w':World} {lo k:Nat} {v:Value} {es:List (List EQ)} (h:OutF w lo v k es) (hb:Below w.heap.size w w'):OutF w' lo v k es:=by
 obtain⟨vs,h1,h2⟩:=h
 exact⟨vs,h1.kept (row:=none) ⟨hb.os,hb.tape,hb.output,hb.size,fun k hk _=>hb.block k hk⟩ (by cases v.ownBlock <;> simp),fun i hi=>(h2 i hi).call hb⟩
theorem OutF.snoc {w w':World} {lo k:Nat} {v v' x:Value} {es:List (List EQ)} {vs:List Value} (h1:w.ownsRow lo 96 1 v k vs) (h2:∀ i,i<k→RowF w (vs.getD i undef) ((es.getD i []).map eI)) (hx:RowF w x ((es.getD k []).map eI))
  (hown:w'.ownsRow lo 96 1 v' (k+1) (vs ++ [x])) (hg:w.grownBy w' v.ownBlock):OutF w' lo v' (k+1) es:=by
 have hvl:vs.length=k:=by have:=h1.1;omega
 have keep:∀ y l,RowF w y l→RowF w' y l:=fun y l hy=>hy.of_block fun g cur hgc=>hg.block g (Array.getElem?_eq_some_iff.1 hgc).1 (fun e=>by
  rcases h1.2 with ⟨rfl,_⟩|⟨g2,cap2,cur2,rfl,_,hg2,_⟩
  ·simp[Value.ownBlock] at e
  ·simp[Value.ownBlock] at e
   subst e
   rw[hgc] at hg2
   injection hg2 with h7
   injection h7 with _ h8
   exact absurd h8 (by decide))
 refine⟨_,hown,fun i hi=>?_⟩
 by_cases hik:i<k
 ·rw[List.getD_eq_getElem?_getD,List.getElem?_append_left (by omega),←List.getD_eq_getElem?_getD]
  exact keep _ _ (h2 i hik)
 ·obtain rfl:i=k:=by omega
  rw[List.getD_eq_getElem?_getD,List.getElem?_append_right (by omega),hvl,Nat.sub_self]
  exact keep _ _ hx
theorem OutF.start (w:World) (lo:Nat) (es:List (List EQ)):OutF w lo (.slice none 0 0) 0 es:=⟨[],World.ownsRow_nil _ _ _ _,fun _ hi=>absurd hi (Nat.not_lt_zero _)⟩
theorem OutF.shape {w:World} {lo k:Nat} {v:Value} {es:List (List EQ)} (h:OutF w lo v k es):∃ a c,v=.slice a k c:=by
 obtain⟨vs,h1,_⟩:=h
 rcases h1.2 with ⟨rfl,hn⟩|⟨g,c,_,rfl,_⟩
 ·exact⟨none,0,by rw[hn]⟩
 ·exact⟨_,_,rfl⟩
theorem SpG.bad {w:World} {v:Value} {n m:Int} {rows:List (List EntI)} (h:SpG w v n m rows) (hr:rows.length≤4096) (hl:∀ i,(rows.getD i []).length≤4096) {err:Int} (he:checkS n m rows=err) (h0:err≠0):BadAt w v err:=
 ⟨by obtain⟨a,cap,rfl,_⟩:=h;exact⟨_,_,_,_,_,rfl⟩,fun W hb=>by subst he;exact scheck_any W v n m rows (h.call hb) hr hl,h0⟩
end Gus
end
section
namespace Gus
def sm (F:Nat→Rat):Nat→Rat
 | 0=>0
 | n+1=>sm F n+F n
theorem sm_congr {F G:Nat→Rat}:∀ n,(∀ i,i<n→F i=G i)→sm F n=sm G n
 | 0,_=>rfl
 | n+1,h=>by rw[sm,sm,sm_congr n (fun i hi=>h i (by omega)),h n (by omega)]
theorem sm_add (F G:Nat→Rat):∀ n,sm (fun i=>F i+G i) n=sm F n+sm G n
 | 0=>by simp[sm,Rat.add_zero]
 | n+1=>by rw[sm,sm_add F G n,sm,sm];grind
theorem sm_mul (c:Rat) (F:Nat→Rat):∀ n,sm (fun i=>c*F i) n=c*sm F n
 | 0=>by simp[sm,Rat.mul_zero]
 | n+1=>by rw[sm,sm_mul c F n,sm];grind
theorem sm_zero:∀ n,sm (fun _=>0) n=0
 | 0=>rfl
 | n+1=>by rw[sm,sm_zero n,Rat.add_zero]
theorem sm_swap (F:Nat→Nat→Rat):∀ n m,sm (fun i=>sm (fun k=>F i k) m) n=sm (fun k=>sm (fun i=>F i k) n) m
 | 0,m=>by simp[sm,sm_zero]
 | n+1,m=>by
  rw[sm,sm_swap F n m,←sm_add]
  exact sm_congr m fun k _=>by rw[sm]
abbrev Vc:=Nat→Rat
def dt (n:Nat) (u v:Vc):Rat:=sm (fun i=>u i*v i) n
def mv (n:Nat) (A:Nat→Nat→Rat) (v:Vc):Vc:=fun i=>sm (fun k=>A i k*v k) n
def axp (c:Rat) (u v:Vc):Vc:=fun i=>c*u i+v i
theorem dt_comm (n:Nat) (u v:Vc):dt n u v=dt n v u:=sm_congr n fun _ _=>Rat.mul_comm _ _
theorem dt_axp (n:Nat) (c:Rat) (u v w:Vc):dt n (axp c u v) w=c*dt n u w+dt n v w:=by
 unfold dt axp
 rw[←sm_mul,←sm_add]
 exact sm_congr n fun i _=>by grind
theorem dt_axp' (n:Nat) (c:Rat) (u v w:Vc):dt n w (axp c u v)=c*dt n w u+dt n w v:=by
 rw[dt_comm,dt_axp,dt_comm n u,dt_comm n v]
theorem dt_congr {n:Nat} {u u' v v':Vc} (h:∀ i,i<n→u i=u' i) (h':∀ i,i<n→v i=v' i):dt n u v=dt n u' v':=sm_congr n fun i hi=>by rw[h i hi,h' i hi]
structure Cg where
 x:Vc
 r:Vc
 p:Vc
def Cg.far (n:Nat) (A:Nat→Nat→Rat) (s:Cg):Rat:=dt n s.r s.r / dt n s.p (mv n A s.p)
def Cg.next (n:Nat) (A:Nat→Nat→Rat) (s:Cg):Cg:=
 let r':=axp (-s.far n A) (mv n A s.p) s.r
 { x:=axp (s.far n A) s.p s.x,r:=r',p:=axp (dt n r' r' / dt n s.r s.r) s.p r' }
def Cg.at (n:Nat) (A:Nat→Nat→Rat) (s:Cg):Nat→Cg
 | 0=>s
 | k+1=>(Cg.at n A s k).next n A
structure Orth (n:Nat) (A:Nat→Nat→Rat) (s:Nat→Cg) (j:Nat):Prop where
 rp:∀ i k,k<i→i≤j→dt n (s i).r (s k).p=0
 rr:∀ i k,k<i→i≤j→dt n (s i).r (s k).r=0
 pp:∀ i k,k<i→i≤j→dt n (s i).p (mv n A (s k).p)=0
 rs:∀ i,i≤j→dt n (s i).r (s i).p=dt n (s i).r (s i).r
theorem sm_skip (F:Nat→Rat) (k0:Nat):∀ m,k0≤m→sm F (m+1)=F k0+sm (fun k=>F (if k<k0 then k else k+1)) m
 | 0,h=>by
  obtain rfl:k0=0:=by omega
  simp[sm,Rat.add_zero,Rat.zero_add]
 | m+1,h=>by
  by_cases e:k0=m+1
  ·subst e
   rw[sm,sm_congr (m+1) (F:=fun k=>F (if k<m+1 then k else k+1)) (G:=F) (fun i hi=>by rw[if_pos hi]),Rat.add_comm]
  ·have ih:=sm_skip F k0 m (by omega)
   rw[sm,ih,sm,if_neg (by omega)]
   grind
theorem sm_one {F:Nat→Rat} {n k:Nat} (hk:k<n) (h:∀ i,i<n→i≠k→F i=0):sm F n=F k:=by
 obtain⟨m,rfl⟩:∃ m,n=m+1:=⟨n - 1,by omega⟩
 rw[sm_skip F k m (by omega),sm_congr m (G:=fun _=>0) (fun i hi=>by
  by_cases e:i<k
  ·rw[if_pos e];exact h i (by omega) (by omega)
  ·rw[if_neg e];exact h (i+1) (by omega) (by omega)),sm_zero,Rat.add_zero]
theorem reach {n:Nat} {A:Nat→Nat→Rat} {s0:Cg} {j:Nat} (O:Orth n A (s0.at n A) j) (o:Nat→Vc) (h0:∀ i,i<n→o 0 i=s0.x i) (c:Nat→Rat) (hs:∀ l,l<j→∀ i,i<n→o (l+1) i=c l*(s0.at n A l).p i+o l i) :
  ∀ l,l≤j→dt n (s0.at n A j).r (fun i=>o l i - (s0.at n A l).x i)=0
 | 0,_=>by
  unfold dt
  rw[sm_congr n (G:=fun _=>0) (fun i hi=>by show _*(o 0 i - s0.x i)=0;rw[h0 i hi];grind),sm_zero]
 | l+1,hl=>by
  have ih:=reach O o h0 c hs l (by omega)
  have e:dt n (s0.at n A j).r (fun i=>o (l+1) i - (s0.at n A (l+1)).x i)=dt n (s0.at n A j).r (axp (c l - (s0.at n A l).far n A) (s0.at n A l).p fun i=>o l i - (s0.at n A l).x i):=dt_congr (fun i _=>rfl) (fun i hi=>by
   rw[hs l (by omega) i hi]
   show _ - axp ((s0.at n A l).far n A) (s0.at n A l).p (s0.at n A l).x i=_
   unfold axp
   grind)
  rw[e,dt_axp',ih,O.rp j l (by omega) (Nat.le_refl _)]
  grind
def SS (d k:Nat) (q:Rat):Prop:=∃ (D:Nat) (z:Int),0<D∧D<2 ^ d∧z.natAbs<2 ^ k∧q*(D:Rat)=(z:Rat)
def CS (n d k:Nat) (v:Vc):Prop:=∃ (D:Nat) (z:Nat→Int),0<D∧D<2 ^ d∧∀ i,i<n→(z i).natAbs<2 ^ k∧v i*(D:Rat)=(z i:Rat)
def CM (n d k:Nat) (A:Nat→Nat→Rat):Prop:=∃ (D:Nat) (z:Nat→Nat→Int),0<D∧D<2 ^ d∧∀ i j,i<n→j<n→(z i j).natAbs<2 ^ k∧A i j*(D:Rat)=(z i j:Rat)
theorem castD {D:Nat} (h:0<D):(D:Rat)≠0:=by
 intro e
 have:D=0:=by exact_mod_cast e
 omega
theorem SS.mono {d k d' k':Nat} {q:Rat} (h:SS d k q) (hd:d≤d') (hk:k≤k'):SS d' k' q:=by
 obtain⟨D,z,h0,h1,h2,h3⟩:=h
 exact⟨D,z,h0,Nat.lt_of_lt_of_le h1 (Nat.pow_le_pow_right (by decide) hd),Nat.lt_of_lt_of_le h2 (Nat.pow_le_pow_right (by decide) hk),h3⟩
theorem CS.mono {n d k d' k':Nat} {v:Vc} (h:CS n d k v) (hd:d≤d') (hk:k≤k'):CS n d' k' v:=by
 obtain⟨D,z,h0,h1,h2⟩:=h
 exact⟨D,z,h0,Nat.lt_of_lt_of_le h1 (Nat.pow_le_pow_right (by decide) hd),fun i hi=>⟨Nat.lt_of_lt_of_le (h2 i hi).1 (Nat.pow_le_pow_right (by decide) hk),(h2 i hi).2⟩⟩
theorem CS.at {n d k:Nat} {v:Vc} (h:CS n d k v) {i:Nat} (hi:i<n):SS d k (v i):=by
 obtain⟨D,z,h0,h1,h2⟩:=h
 exact⟨D,z i,h0,h1,(h2 i hi).1,(h2 i hi).2⟩
theorem SS.neg {d k:Nat} {q:Rat} (h:SS d k q):SS d k (-q):=by
 obtain⟨D,z,h0,h1,h2,h3⟩:=h
 exact⟨D,-z,h0,h1,by rw[Int.natAbs_neg];exact h2,by rw[Rat.neg_mul,h3];push_cast;rfl⟩
def smz (F:Nat→Int):Nat→Int
 | 0=>0
 | n+1=>smz F n+F n
theorem smz_lt {F:Nat→Int} {k:Nat}:∀ n,(∀ i,i<n→(F i).natAbs<2 ^ k)→(smz F n).natAbs<2 ^ (k+n)
 | 0,_=>by simp[smz,Nat.pow_pos]
 | n+1,h=>by
  have h1:=smz_lt n fun i hi=>h i (by omega)
  have h2:=h n (by omega)
  have h3:=Int.natAbs_add_le (smz F n) (F n)
  have h4:2 ^ k≤2 ^ (k+n):=Nat.pow_le_pow_right (by decide) (by omega)
  have e:2 ^ (k+(n+1))=2 ^ (k+n)+2 ^ (k+n):=by rw[←Nat.add_assoc,Nat.pow_succ];omega
  rw[smz,e];omega
theorem sm_cast {F:Nat→Rat} {z:Nat→Int} {c:Rat}:∀ n,(∀ i,i<n→F i*c=(z i:Rat))→sm F n*c=((smz z n:Int):Rat)
 | 0,_=>by simp[sm,smz,Rat.zero_mul]
 | n+1,h=>by
  rw[sm,smz,Rat.add_mul,sm_cast n (fun i hi=>h i (by omega)),h n (by omega)]
  push_cast;rfl
theorem abs_mul_lt {a b:Int} {i j:Nat} (ha:a.natAbs<2 ^ i) (hb:b.natAbs<2 ^ j):(a*b).natAbs<2 ^ (i+j):=by
 rw[Int.natAbs_mul];exact mul_lt_pow ha hb
theorem CS.dt {n d k d' k':Nat} {u v:Vc} (h:CS n d k u) (h':CS n d' k' v):SS (d+d') (k+k'+n) (dt n u v):=by
 obtain⟨D,z,h0,h1,h2⟩:=h
 obtain⟨D',z',h0',h1',h2'⟩:=h'
 refine⟨D*D',smz (fun i=>z i*z' i) n,Nat.mul_pos h0 h0',mul_lt_pow h1 h1',smz_lt n fun i hi=>abs_mul_lt (h2 i hi).1 (h2' i hi).1, ?_⟩
 unfold Gus.dt
 refine sm_cast n fun i hi=>?_
 have e1:=(h2 i hi).2
 have e2:=(h2' i hi).2
 push_cast
 rw[←e1,←e2]
 grind
theorem CM.mv {n a b d k:Nat} {A:Nat→Nat→Rat} {v:Vc} (hA:CM n a b A) (h:CS n d k v):CS n (a+d) (b+k+n) (mv n A v):=by
 obtain⟨D,z,h0,h1,h2⟩:=hA
 obtain⟨D',z',h0',h1',h2'⟩:=h
 refine⟨D*D',fun i=>smz (fun j=>z i j*z' j) n,Nat.mul_pos h0 h0',mul_lt_pow h1 h1',fun i hi=>⟨smz_lt n fun j hj=>abs_mul_lt (h2 i j hi hj).1 (h2' j hj).1, ?_⟩⟩
 unfold Gus.mv
 refine sm_cast n fun j hj=>?_
 have e1:=(h2 i j hi hj).2
 have e2:=(h2' j hj).2
 push_cast
 rw[←e1,←e2]
 grind
theorem CS.axp {n d1 k1 d2 k2 d3 k3 K:Nat} {c:Rat} {u v:Vc} (hc:SS d1 k1 c) (hu:CS n d2 k2 u) (hv:CS n d3 k3 v) (ha:k1+k2+d3≤K) (hb:k3+d1+d2≤K):CS n (d1+d2+d3) (K+1) (axp c u v):=by
 obtain⟨D1,z1,p1,q1,r1,s1⟩:=hc
 obtain⟨D2,z2,p2,q2,r2⟩:=hu
 obtain⟨D3,z3,p3,q3,r3⟩:=hv
 refine⟨D1*D2*D3,fun i=>z1*z2 i*D3+z3 i*(D1*D2),Nat.mul_pos (Nat.mul_pos p1 p2) p3,mul_lt_pow (mul_lt_pow q1 q2) q3,fun i hi=>⟨?_, ?_⟩⟩
 ·have h1:=abs_mul_lt (abs_mul_lt r1 (r2 i hi).1) (show(D3:Int).natAbs<2 ^ d3 by rw[Int.natAbs_natCast];exact q3)
  have h2:=abs_mul_lt (r3 i hi).1 (abs_mul_lt (show(D1:Int).natAbs<2 ^ d1 by rw[Int.natAbs_natCast];exact q1) (show(D2:Int).natAbs<2 ^ d2 by rw[Int.natAbs_natCast];exact q2))
  have h3:=Int.natAbs_add_le (z1*z2 i*D3) (z3 i*(D1*D2))
  have h4:2 ^ (k1+k2+d3)≤2 ^ K:=Nat.pow_le_pow_right (by decide) ha
  have h5:2 ^ (k3+(d1+d2))≤2 ^ K:=Nat.pow_le_pow_right (by decide) (by omega)
  show(z1*z2 i*(D3:Int)+z3 i*((D1:Int)*D2)).natAbs<2 ^ (K+1)
  rw[Nat.pow_succ];omega
 ·have e2:=(r2 i hi).2
  have e3:=(r3 i hi).2
  push_cast
  rw[←s1,←e2,←e3]
  unfold Gus.axp
  grind
theorem SS.div {d1 k1 d2 k2:Nat} {a b:Rat} (ha:SS d1 k1 a) (hb:SS d2 k2 b):SS (d1+k2) (k1+d2) (a / b):=by
 obtain⟨D1,z1,p1,q1,r1,s1⟩:=ha
 obtain⟨D2,z2,p2,q2,r2,s2⟩:=hb
 by_cases h0:b=0
 ·subst h0
  refine⟨1,0,by decide, ?_,by simp[Nat.pow_pos],by rw[Rat.div_def,Rat.inv_zero];simp⟩
  have:2 ^ d1≤2 ^ (d1+k2):=Nat.pow_le_pow_right (by decide) (by omega)
  omega
 ·have hz:z2≠0:=fun e=>by
   rw[e] at s2
   rcases Rat.mul_eq_zero.1 (show b*(D2:Rat)=0 by rw[s2];rfl) with h | h
   ·exact h0 h
   ·exact castD p2 h
  refine⟨D1*z2.natAbs,z1*D2*z2.sign,Nat.mul_pos p1 (by omega),mul_lt_pow q1 r2, ?_, ?_⟩
  ·have h1:=abs_mul_lt r1 (show(D2:Int).natAbs<2 ^ d2 by rw[Int.natAbs_natCast];exact q2)
   rw[Int.natAbs_mul,Int.natAbs_sign_of_ne_zero hz,Nat.mul_one]
   exact h1
  ·have e1:((z2.natAbs:Nat):Rat)=(z2:Rat)*((z2.sign:Int):Rat):=by
    have:((z2.natAbs:Nat):Int)=z2*z2.sign:=by rw[Int.mul_sign_self]
    have h:=congrArg (fun x:Int=>(x:Rat)) this
    push_cast at h
    simpa using h
   push_cast
   rw[e1,←s1,←s2]
   have e2:a / b*b=a:=Rat.div_mul_cancel h0
   generalize a / b=q at e2
   rw[←e2]
   grind
structure CgS (n s:Nat) (t:Cg):Prop where
 x:CS n s s t.x
 r:CS n s s t.r
 p:CS n s s t.p
theorem CgS.sp {n a s:Nat} {A:Nat→Nat→Rat} {t:Cg} (hA:CM n a a A) (h:CgS n s t):CS n (a+s) (a+s+n) (mv n A t.p):=hA.mv h.p
theorem CgS.far {n a s:Nat} {A:Nat→Nat→Rat} {t:Cg} (hA:CM n a a A) (h:CgS n s t):SS (4*s+a+2*n) (4*s+a+n) (t.far n A):=by
 have h1:=(h.r.dt h.r).div (h.p.dt (h.sp hA))
 exact h1.mono (by omega) (by omega)
theorem CgS.next {n a s:Nat} {A:Nat→Nat→Rat} {t:Cg} (hA:CM n a a A) (h:CgS n s t):CgS n (21*s+6*a+14*n+4) (t.next n A):=by
 have hx:CS n (6*s+2*a+4*n) (6*s+2*a+4*n+1) (t.next n A).x:=(CS.axp (K:=6*s+a+2*n) (h.far hA) h.p h.x (by omega) (by omega)).mono (by omega) (by omega)
 have hr:CS n (6*s+2*a+4*n) (6*s+2*a+4*n+1) (t.next n A).r:=(CS.axp (K:=6*s+2*a+2*n) (h.far hA).neg (h.sp hA) h.r (by omega) (by omega)).mono (by omega) (by omega)
 have hb:=(hr.dt hr).div (h.r.dt h.r)
 have hp:CS n (21*s+6*a+14*n+4) (21*s+6*a+14*n+3+1) (t.next n A).p:=(CS.axp (K:=21*s+6*a+13*n+3) hb h.p hr (by omega) (by omega)).mono (by omega) (by omega)
 exact⟨hx.mono (by omega) (by omega),hr.mono (by omega) (by omega),hp⟩
end Gus
end
