/- Proved here: parts of the proof: KSqk KSql. Conditions: those that each theorem states. -/
import Derived.Test.YthblojaeoiemmaaGreatDoorKSqgQ
section
namespace Gus
open Go Go.RowKit Go.Proofs
set_option maxRecDepth 100000 in
set_option maxHeartbeats 4000000 in
theorem scompl_any {j l:Nat} (w:World) (v:Value) (ii oo:List Nat) (M N:Mx) (hS:SplitAt w v ii oo M N) (ho:oo.length≤2048) (h1:Mz oo.length oo.length j (sub M oo oo)) (h2:Mz oo.length oo.length l (prodM M ii oo N)) (hcap:j+l+1<17592186044416) :
  Calls Tryz.prog 50 #[v] w fun e w'=>(∃ d,e=.returned d∧MatS w' d oo.length oo.length (schur M ii oo N))∧Below w.heap.size w w':=by
 have eg:∀ args w,(callFunc 101 args).run Tryz.prog w=.ok (.enter 101 args) w:=enters_of Tryz.func101 (by kernel_rfl) rfl
 have cm:=fun W (h:Below w.heap.size w W)=>make_fst (schur M ii oo N) W oo.length oo.length 101 #[v] #[] eg ho ho (fun i k W2 hi hk h3=>splat_any W2 v ii oo M N ((hS.call h).call h3.bel) i k hi hk ho (h1 i k hi hk) (h2 i k hi hk) hcap)
 obtain⟨p,a0,c0,a1,c1,g00,n00,g01,n01,g10,n10,g11,n11,gi,ni,xp,np,kp,rfl,hB,-⟩:=hS
 obtain⟨O,hO⟩:∃ O,O=oo.length:=⟨_,rfl⟩
 rw[←hO] at cm hB ⊢
 have p1:w.cell? ⟨p,1,none⟩=some (.slice a1 O c1):=hB.box.cell 1
 have pl:=hB.box.lt
 clear hB hO h1 h2 hcap ho
 go_enter Tryz.func50,Tryz.ntmps50
 go_upto_region 1 with fail
 ((obtain⟨X,hXX⟩:∃ z,z=w.heap.size:=⟨_,rfl⟩);(have bV0:=(Bx.new_at w #[.int .i64 0,.int .i64 0,.slice none 0 0] 37 (n:=X) (by simp[hXX])));(have hV:=((In.self w).alloc (.cells #[.int .i64 0,.int .i64 0,.slice none 0 0] 37)));(rw[←hXX] at hV ⊢);(have HX:=Lib.hid hXX);clear hXX;(generalize w.alloc (.cells #[.int .i64 0,.int .i64 0,.slice none 0 0] 37)=V at *))
 have hV0:=hV
 rw[HX.out] at hV0
 have hcc:=hV0.cell
 rw[←hcc _ _ pl] at p1
 replace pl:=Nat.lt_of_lt_of_le pl hV0.siz
 have cm2:=cm V hV0.bel
 clear hcc hV0 cm
 (go_wp2_with fail;(((with_reducible refine(cm2).mono ?_)));(rintro e wc1 ⟨⟨d,rfl,hd⟩,hb⟩);clear cm2 p1 pl;replace hV:=hV.call hb;replace bV0:=bV0.call hb;clear hb)
 obtain⟨ad,n,kd,hn,rfl⟩:=hd.shape
 clear hn
 go_upto_region 3 with fail
 ((obtain⟨E,hE⟩:∃ z,z=wc1.heap.size:=⟨_,rfl⟩);(have bE:=Bx.new_at wc1 #[.int .i64 (O:Nat),.int .i64 (O:Nat),.slice ad n kd] 37 hE);(replace hV:=hV.alloc (.cells #[.int .i64 (O:Nat),.int .i64 (O:Nat),.slice ad n kd] 37));(replace bV0:=bV0.alloc (.cells #[.int .i64 (O:Nat),.int .i64 (O:Nat),.slice ad n kd] 37));(replace hd:=hd.call ((Below.refl _ _).alloc (Nat.le_refl _) (.cells #[.int .i64 (O:Nat),.int .i64 (O:Nat),.slice ad n kd] 37)));(rw[←hE]);clear hE;(generalize wc1.alloc (.cells #[.int .i64 (O:Nat),.int .i64 (O:Nat),.slice ad n kd] 37)=W2 at *))
 (have e0:=bE.c0;have e1:=bE.c1;have e2:=bE.c2;have el:=bE.lt)
 have hin:=hV
 have bq:=bV0
 clear hV bV0
 ((have K5:=Lib.hid (hd.put3 (p':=((O:Nat):Int)) (q':=((O:Nat):Int)) (ao':=ad) (n':=n) (k':=kd) bq));
       have r0:=bq.c0;
       have r1:=bq.c1;
       have r2:=bq.c2;
       (have f0:=bq.frozen 0);
       (have f1:=bq.frozen 1);
       (have f2:=bq.frozen 2);
       have ql:=bq.lt;
       (have K1:=Lib.hid (((bq.set 0 (.int .i64 ((O:Nat):Int))).set 1 (.int .i64 ((O:Nat):Int))).set 2 (.slice ad n kd)));
       (have K2:=Lib.hid (((hin.setCell (p:=⟨X,0,none⟩) (by first |(simp;done)|(have:=HX.out;simp;omega)) (.int .i64 ((O:Nat):Int))).setCell (p:=⟨X,1,none⟩) (by first |(simp;done)|(have:=HX.out;simp;omega)) (.int .i64 ((O:Nat):Int))).setCell (p:=⟨X,2,none⟩) (by first |(simp;done)|(have:=HX.out;simp;omega)) (.slice ad n kd)));
       clear bq hin hd;
       go_wp2_with fail;
       have k1:=K1.out;
       have k2:=K2.out;
       have hm:=K5.out;
       clear r0 r1 r2 f0 f1 f2 ql K1 K2 K5;
       (generalize (((W2.setCell ⟨X,0,none⟩ (.int .i64 ((O:Nat):Int))).setCell ⟨X,1,none⟩ (.int .i64 ((O:Nat):Int))).setCell ⟨X,2,none⟩ (.slice ad n kd))=W9 at *);
       (have e0:W9.cell? ⟨X,0,none⟩=some (.int .i64 ((O:Nat):Int)):=k1.cell 0);
       (have e1:W9.cell? ⟨X,1,none⟩=some (.int .i64 ((O:Nat):Int)):=k1.cell 1);
       (have e2:W9.cell? ⟨X,2,none⟩=some (.slice ad n kd):=k1.cell 2);
       have hz:=k2.bel;
       (refine bodyPost_ret (v:=.agg #[.int .i64 ((O:Nat):Int),.int .i64 ((O:Nat):Int),.slice ad n kd]) ?_ rfl ⟨⟨_,rfl,hm⟩,by rw[←HX.out];exact hz⟩);
       (simp[results,Tryz.results50,go_sem,e0,e1,e2]))
def condV (M:Mx) (ii oo:List Nat) (N:Mx) (b:Vc):Vc:=fun r=>rs oo b r - mv ii.length (sub M oo ii) (mv ii.length N (rs ii b)) r
set_option maxRecDepth 100000 in
set_option maxHeartbeats 4000000 in
theorem scond_any {z:Nat} (w:World) (v bv:Value) (n:Nat) (ii oo:List Nat) (M N:Mx) (b:Vc) (hS:SplitAt w v ii oo M N) (hb:VecAt w bv (vl n b)) (hn:n≤16) (hi:∀ i∈ii,i<n) (ho:∀ i∈oo,i<n) (hil:ii.length≤n) (hol:oo.length≤n) (hz:1≤z) (hM:Mz n n z M) (hbz:Vz n z b) (hN:Mz ii.length ii.length (jz ii.length z) N) (hcap:gz ii.length z<17592186044416) :
  Calls Tryz.prog 52 #[v,bv] w fun e w'=>(∃ d,e=.returned d∧VecAt w' d (vl oo.length (condV M ii oo N b)))∧Below w.heap.size w w':=by
 have hlz:=lz_le (a:=ii.length) hz
 have hpz:=pz_le (a:=ii.length) hz
 have hjz:0<jz ii.length z:=Nat.lt_of_lt_of_le hz (le_jz _ _)
 obtain⟨p,a0,c0,a1,c1,g00,n00,g01,n01,g10,n10,g11,n11,gi,ni,xp,np,kp,rfl,hB,hI0,hI1,_,hM10,_,hMI,_⟩:=hS
 have cp0:=fun W (h:Below w.heap.size w W)=>vpart_ok W bv n b (hb.call h) a0 c0 ii (hI0.call h) hi (by omega) (by omega)
 have cp1:=fun W (h:Below w.heap.size w W)=>vpart_ok W bv n b (hb.call h) a1 c1 oo (hI1.call h) ho (by omega) (by omega)
 have ca:=fun W d (h:Below w.heap.size w W) (hd:VecAt W d (vl ii.length (rs ii b)))=>mapp_mv W _ d ii.length ii.length N (rs ii b) (hMI.call h) hd (by omega) (by omega) hN (rs_szk hbz hi) hjz (by omega) (by
  have e:1+ii.length*(jz ii.length z+z+1)=lz ii.length z:=by unfold lz;rw[Nat.add_comm z]
  omega)
 have cl:=fun W d1 d2 (h:Below w.heap.size w W) (hd1:VecAt W d1 (vl oo.length (rs oo b))) (hd2:VecAt W d2 (vl ii.length (mv ii.length N (rs ii b))))=>sless_any (i:=z) (j:=z) (l:=lz ii.length z) W d1 _ d2 oo.length ii.length (rs oo b) (mv ii.length N (rs ii b)) (sub M oo ii) hd1 (hM10.call h) hd2 (by omega) (by omega) (rs_szk hbz ho) (sub_szk hM ho hi) ((mv_szk hjz hN (rs_szk hbz hi)).mono (by unfold lz;rw[Nat.add_comm (jz _ _)];exact Nat.le_refl _)) (by omega) (by omega) (by unfold lz;omega) (by
  have e:z+(1+ii.length*(z+lz ii.length z+1))+1=pz ii.length z+z+1:=by unfold pz;rw[Nat.add_comm (lz _ _) z];omega
  omega)
 obtain⟨ba,bc,rfl⟩:=hb.shape
 rw[vl_length] at cp0 cp1 ⊢
 obtain⟨A,hA⟩:∃ A,A=ii.length:=⟨_,rfl⟩
 obtain⟨O,hO⟩:∃ O,O=oo.length:=⟨_,rfl⟩
 have HA:=Lib.hid hA
 have HO:=Lib.hid hO
 rw[←hA,←hO] at hB
 simp only[←hA,←hO] at cp0 cp1 ca cl ⊢
 have hin:=In.self w
 clear hA hO hI0 hI1 hM10 hMI hb hi ho hil hol hM hbz hN hcap hlz hpz hjz hz
 go_enter Tryz.func52,Tryz.ntmps52
 have p0:World.cell? w ⟨p,0,none⟩=some (.slice a0 A c0):=hB.box.cell 0
 have pl:=hB.box.lt
 (go_wp2_with fail;(((with_reducible refine(cp0 _ hin.bel).mono ?_)));(rintro e wc1 ⟨⟨d1,rfl,hd1⟩,hb⟩);clear cp0 p0 pl;replace hin:=hin.call hb;replace hB:=hB.call hb;clear hb)
 obtain⟨d1a,d1c,hde⟩:=hd1.shape
 rw[vl_length] at hde
 subst hde
 have p1:World.cell? wc1 ⟨p,1,none⟩=some (.slice a1 O c1):=hB.box.cell 1
 have pl:=hB.box.lt
 (go_wp2_with fail;(((with_reducible refine(cp1 _ hin.bel).mono ?_)));(rintro e wc2 ⟨⟨d2,rfl,hd2⟩,hb⟩);clear cp1 p1 pl;replace hin:=hin.call hb;replace hB:=hB.call hb;replace hd1:=hd1.call hb;clear hb)
 obtain⟨d2a,d2c,hde⟩:=hd2.shape
 rw[vl_length] at hde
 subst hde
 have r0:World.cell? wc2 ⟨p,14,none⟩=some (.int .i64 A):=hB.box.cell 14
 have r1:World.cell? wc2 ⟨p,15,none⟩=some (.int .i64 A):=hB.box.cell 15
 have r2:World.cell? wc2 ⟨p,16,none⟩=some (.slice (some ⟨gi,0,none⟩) ni ni):=hB.box.cell 16
 have pl:=hB.box.lt
 (go_wp2_with fail;(((with_reducible refine(ca _ _ hin.bel hd1).mono ?_)));(rintro e wc3 ⟨⟨d3,rfl,hd3⟩,hb⟩);clear ca r0 r1 r2 pl;replace hin:=hin.call hb;replace hB:=hB.call hb;replace hd1:=hd1.call hb;replace hd2:=hd2.call hb;clear hb)
 obtain⟨d3a,d3c,hde⟩:=hd3.shape
 rw[vl_length] at hde
 subst hde
 have q0:World.cell? wc3 ⟨p,8,none⟩=some (.int .i64 O):=hB.box.cell 8
 have q1:World.cell? wc3 ⟨p,9,none⟩=some (.int .i64 A):=hB.box.cell 9
 have q2:World.cell? wc3 ⟨p,10,none⟩=some (.slice (some ⟨g10,0,none⟩) n10 n10):=hB.box.cell 10
 have pl:=hB.box.lt
 (go_wp2_with fail;(((with_reducible refine(cl _ _ _ hin.bel hd2 hd3).mono ?_)));(rintro e wc4 ⟨⟨d4,rfl,hd4⟩,hb⟩);clear cl q0 q1 q2 pl;replace hin:=hin.call hb;replace hB:=hB.call hb;replace hd1:=hd1.call hb;replace hd2:=hd2.call hb;replace hd3:=hd3.call hb;clear hb)
 obtain⟨d4a,d4c,hde⟩:=hd4.shape
 rw[vl_length] at hde
 subst hde
 have H4:=Lib.hid hd4
 clear hd4
 go_wp2_with fail
 go_ret
 refine⟨⟨_,rfl, ?_⟩,hin.bel⟩
 have:=H4.out
 rw[HA.out,HO.out] at this
 rw[HO.out]
 exact this
end Gus
end
section
namespace Gus
open Go Go.RowKit Go.Proofs
def asg (l:List Nat) (F G:Vc) (k:Nat):Vc:=fun i=>if i∈l.take k then F (l.idxOf i) else G i
theorem asg_zero (l:List Nat) (F G:Vc):asg l F G 0=G:=by
 funext i;unfold asg;rw[List.take_zero,if_neg (by simp)]
theorem asg_set {l:List Nat} (hn:l.Nodup) {n k:Nat} (F G:Vc) (hk:k<l.length):(vl n (asg l F G k)).set (l.getD k 0) (F k)=vl n (asg l F G (k+1)):=by
 apply List.ext_getElem
 ·simp[vl]
 ·intro i h1 h2
  simp only[vl,List.getElem_set,List.getElem_map,List.getElem_range]
  have e1:=take_snoc0 l hk
  by_cases h:l.getD k 0=i
  ·subst h
   rw[if_pos rfl]
   unfold asg
   rw[if_pos (by rw[←e1];simp),idx_getD hn hk]
  ·rw[if_neg h]
   unfold asg
   have e2:i∈l.take (k+1)↔i∈l.take k:=by
    rw[←e1,List.mem_append,List.mem_singleton]
    exact⟨fun h3=>h3.elim id fun h4=>absurd h4.symm h,.inl⟩
   by_cases h3:i∈l.take k
   ·rw[if_pos h3,if_pos (e2.2 h3)]
   ·rw[if_neg h3,if_neg fun h4=>h3 (e2.1 h4)]
theorem asg_full {n:Nat} {ii oo:List Nat} (hs:Split n ii oo) (U y:Vc):vl n (asg oo y (asg ii U (fun _=>0) ii.length) oo.length)=vl n (put2 ii oo U y):=by
 refine vl_congr fun i hi=>?_
 obtain⟨_,_,hd⟩:=List.nodup_append.1 hs.nodup
 unfold asg put2
 rw[List.take_length,List.take_length]
 rcases hs.cover hi with h | h
 ·have h2:¬ i∈oo:=fun h2=>hd i h i h2 rfl
  rw[if_neg h2,if_pos h,if_pos h]
 ·have h2:¬ i∈ii:=fun h2=>hd i h2 i h rfl
  rw[if_pos h,if_neg h2]
def innV (M:Mx) (ii oo:List Nat) (N:Mx) (b y:Vc):Vc:=mv ii.length N fun t=>rs ii b t - mv oo.length (sub M ii oo) y t
theorem vl_zero (n:Nat):vl n (fun _=>0)=List.replicate n 0:=by
 apply List.ext_getElem <;> simp[vl]
set_option maxRecDepth 100000 in
set_option maxHeartbeats 8000000 in
theorem sext_any {z yz:Nat} (w:World) (v bv yv:Value) (n:Nat) (ii oo:List Nat) (M N:Mx) (b y:Vc) (hS:SplitAt w v ii oo M N) (hb:VecAt w bv (vl n b)) (hy:VecAt w yv (vl oo.length y)) (hn:n≤16) (hs:Split n ii oo) (hz:1≤z) (hyz:1≤yz) (hM:Mz n n z M) (hbz:Vz n z b) (hN:Mz ii.length ii.length (jz ii.length z) N) (hyy:Vz oo.length yz y)
  (hcap:ez ii.length oo.length z yz<17592186044416) (hcap2:z+(1+oo.length*(z+yz+1))+1<17592186044416) :
  Calls Tryz.prog 54 #[v,bv,yv] w fun e w'=>(∃ d,e=.returned d∧VecAt w' d (vl n (put2 ii oo (innV M ii oo N b y) y)))∧Below w.heap.size w w':=by
 have hi:∀ i∈ii,i<n:=fun i h=>hs.lt (.inl h)
 have ho:∀ i∈oo,i<n:=fun i h=>hs.lt (.inr h)
 have hlen:=hs.len
 have hjz:0<jz ii.length z:=Nat.lt_of_lt_of_le hz (le_jz _ _)
 obtain⟨p,a0,c0,a1,c1,g00,n00,g01,n01,g10,n10,g11,n11,gi,ni,xp,np,kp,rfl,hB,hI0,hI1,hM01,_,_,hMI,_⟩:=hS
 have cp0:=fun W (h:Below w.heap.size w W)=>vpart_ok W bv n b (hb.call h) a0 c0 ii (hI0.call h) hi (by omega) (by omega)
 have cl:=fun W d1 (h:Below w.heap.size w W) (hd1:VecAt W d1 (vl ii.length (rs ii b)))=>sless_any (i:=z) (j:=z) (l:=yz) W d1 _ yv ii.length oo.length (rs ii b) y (sub M ii oo) hd1 (hM01.call h) (hy.call h) (by omega) (by omega) (rs_szk hbz hi) (sub_szk hM hi ho) hyy (by omega) (by omega) (by omega) hcap2
 have ca:=fun W d (h:Below w.heap.size w W) (hd:VecAt W d (vl ii.length fun t=>rs ii b t - mv oo.length (sub M ii oo) y t))=>mapp_mv (l:=z+(1+oo.length*(z+yz+1))+1) W _ d ii.length ii.length N _ (hMI.call h) hd (by omega) (by omega) hN (fun t ht=>(rs_szk hbz hi t ht).sub (mv_szk hz (sub_szk hM hi ho) hyy t ht)) hjz (by omega) hcap
 change ∀ W d,_→_→Calls _ _ _ W (fun e w'=>(∃ d,e=.returned (.tuple #[d,.int .i64 0])∧VecAt w' d (vl ii.length (innV M ii oo N b y)))∧_) at ca
 obtain⟨U,hU⟩:∃ U,U=innV M ii oo N b y:=⟨_,rfl⟩
 rw[←hU] at ca ⊢
 obtain⟨T,hT⟩:∃ T:Vc,T=fun t=>rs ii b t - mv oo.length (sub M ii oo) y t:=⟨_,rfl⟩
 rw[←hT] at cl ca
 have HSP:=Lib.hid hs
 have HY:=Lib.hid hy
 have HI0:=Lib.hid hI0
 have HI1:=Lib.hid hI1
 obtain⟨ba,bc,rfl⟩:=hb.shape
 obtain⟨ya,yc,rfl⟩:=hy.shape
 obtain⟨A,hA⟩:∃ A,A=ii.length:=⟨_,rfl⟩
 obtain⟨O,hO⟩:∃ O,O=oo.length:=⟨_,rfl⟩
 have HA:=Lib.hid hA
 have HO:=Lib.hid hO
 rw[←hA,←hO] at hB hlen
 simp only[←hA,←hO,vl_length] at cp0 cl ca HY ⊢
 have hin:=In.self w
 have HLEN:=Lib.hid hlen
 clear hA hO hI0 hI1 hM01 hMI hb hi ho hM hbz hN hcap hcap2 hjz hz hyz hyy hs hU hT hy
 go_enter Tryz.func54,Tryz.ntmps54
 have p0:World.cell? w ⟨p,0,none⟩=some (.slice a0 A c0):=hB.box.cell 0
 have pl:=hB.box.lt
 (go_wp2_with fail;(((with_reducible refine(cp0 _ hin.bel).mono ?_)));(rintro e wc1 ⟨⟨d1,rfl,hd1⟩,hb⟩);clear cp0 p0 pl;replace hin:=hin.call hb;replace hB:=hB.call hb;clear hb)
 obtain⟨d1a,d1c,hde⟩:=hd1.shape
 rw[vl_length] at hde
 subst hde
 go_upto_region 2 with fail
 have r0:World.cell? wc1 ⟨p,14,none⟩=some (.int .i64 A):=hB.box.cell 14
 have r1:World.cell? wc1 ⟨p,15,none⟩=some (.int .i64 A):=hB.box.cell 15
 have r2:World.cell? wc1 ⟨p,16,none⟩=some (.slice (some ⟨gi,0,none⟩) ni ni):=hB.box.cell 16
 have q0:World.cell? wc1 ⟨p,5,none⟩=some (.int .i64 A):=hB.box.cell 5
 have q1:World.cell? wc1 ⟨p,6,none⟩=some (.int .i64 O):=hB.box.cell 6
 have q2:World.cell? wc1 ⟨p,7,none⟩=some (.slice (some ⟨g01,0,none⟩) n01 n01):=hB.box.cell 7
 have pl:=hB.box.lt
 have h:=In.self wc1;have hc:=h.cell;have hf:=h.frozen;refine tfw 17 ?_;refine tset ?_;(repeat (first | refine tfs ?_))
 (with_reducible refine flow_rel (Vi:=VcQ (vl A T)) false ?_ ?_ ?_ ?_ ?_ ?_);(focus rfl);(focus rfl);(focus exact stable_vcq _);(focus exact placed_false _);(focus (intro u w1 hw hd;replace hd:=thn hd;have hc':=hw.cell;go_simp;(try simp only[okUpon]);go_at_call 102;((with_reducible refine(cl _ _ (hin.call hw.ins.bel).bel (hd1.call hw.ins.bel)).mono ?_));rintro e w'' ⟨⟨v,rfl,hv⟩,hb⟩;exact⟨v,rfl,⟨hv,fun h=>by cases h⟩,hb⟩))
 (repeat (first | refine tfs ?_))
 (with_reducible refine flow_rel (Vi:=TupV (vl A U)) false ?_ ?_ ?_ ?_ ?_ ?_);(focus rfl);(focus rfl);(focus exact stable_tupv _);(focus exact placed_false _);(focus (intro u w1 hw hd;replace hd:=thn hd;obtain⟨hd1,hd2,hd3⟩:=hd;have hc':=hw.cell;go_simp;(try simp only[okUpon]);go_at_call 37;((with_reducible refine((ca _ _ (hin.call hw.ins.bel).bel hd2.v).mono fun _ _ h=>tupv_mk h).mono ?_));rintro e w'' ⟨⟨v,rfl,hv⟩,hb⟩;exact⟨v,rfl,⟨hv,fun h=>by cases h⟩,hb⟩))
 (((with_reducible refine flow_link (k:=13) (R:=MvS) ?_ ?_ ?_ ?_);(focus rfl);(focus rfl);(focus (intro u w1 hw hd;replace hd:=thn hd;obtain⟨⟨a,l,k,e,h3⟩,_⟩:=hd;exact⟨u 13,fun w2=>(by go_simp),rfl,a,l,k,e,h3⟩)));((with_reducible refine flow_link (k:=14) (R:=FstS) ?_ ?_ ?_ ?_);(focus rfl);(focus rfl);(focus (intro u w1 hw hd;replace hd:=thn hd;obtain⟨h4,a,l,k,e,h5⟩:=hd;exact⟨.slice a l k,fun w2=>(by clear h4;go_simp),a,l,k,e,h5,rfl⟩)));((with_reducible refine flow_link (k:=14) (R:=SndS) ?_ ?_ ?_ ?_);(focus rfl);(focus rfl);(focus (intro u w1 hw hd;replace hd:=thn hd;obtain⟨h4,a,l,k,e,h5⟩:=hd;exact⟨.int .i64 e,fun w2=>(by clear h4;go_simp),a,l,k,e,h5,rfl⟩))))
 (try clear hc hf h);intro u w' h ha hdi;replace h:=tsz h.ins;replace ha:=tah ha;have hc:=h.cell;have hf:=h.frozen;have hb:=h.bel;clear hdi hc hf;clear r0 r1 r2 q0 q1 q2 pl;replace hin:=hin.call hb;replace hB:=hB.call hb;replace hd1:=hd1.call hb;clear hb h;rename World=>W2
 obtain⟨⟨⟨⟨⟨h0,h12⟩,h13⟩,h14⟩,h15⟩,h16⟩:=ha
 obtain⟨va,vk,e13,e14,e15,e16,hu⟩:=tupv_out h13 h14 h15 h16
 rw[vl_length] at e13 e14 e15 hu
 (try dsimp only)
 simp only[e15,e16]
 clear h0 h12 h13 h14 h15 h16 e13 e14 e15 e16 cl ca hd1
 have HU:=Lib.hid hu
 have HB:=Lib.hid hB
 have HIN:=Lib.hid hin
 have hmk:=mk_vec n (by omega)
 obtain⟨fc,hfc⟩:∃ fc,fc=fcl (List.replicate n 0):=⟨_,rfl⟩
 rw[←hfc] at hmk
 have HF:=Lib.hid hfc
 have hwn:IntKind.i64.wrap ((A:Int)+O)=(n:Int):=by rw[show((A:Int)+O)=(n:Int) by have:=HLEN.out;omega];exact IntWalk.i64_in _ (by omega)
 clear hfc hu
 obtain⟨g,hg⟩:∃ g,g=W2.heap.size:=⟨_,rfl⟩
 have bv:VBx (W2.alloc (.cells fc.toArray 72)) g (vl n (asg ii U (fun _=>0) 0)):=by
  have:=Bx.new_at W2 fc.toArray 72 hg
  show Bx _ g 72 (fcl _)
  rw[asg_zero,vl_zero,←HF.out];exact this
 have HG:=Lib.hid hg
 have hi2:=(In.self W2).alloc (.cells fc.toArray 72)
 go_upto_region 4 with fail
 rw[←hg]
 clear hg hmk hwn hin
 generalize W2.alloc (.cells fc.toArray 72)=W3 at *
 have hB3:=hB.call hi2.bel
 have p0:W3.cell? ⟨p,0,none⟩=some (.slice a0 A c0):=hB3.box.cell 0
 have pl:=hB3.box.lt
 clear hB hB3
 go_wp2_with fail
 clear p0 pl
 go_loopw [55] (fun v55 wr=>∃ k:Nat,k≤A∧v55=.int .i64 k∧In W2.heap.size W2 wr∧VBx wr g (vl n (asg ii U (fun _=>0) k))) (fun v55 _=>A - (RowKit.intOf v55).toNat)
 case atStart=>exact⟨0,Nat.zero_le _,rfl,hi2,bv⟩
 case round=>
  clear hi2 bv
  obtain⟨k,hk,rfl,hin,bv⟩:=hrel
  by_cases hkA:k<A
  ·have hkI:(k:Int)<A:=by omega
   have hk0:(0:Int)≤k:=by omega
   have hkw:IntKind.i64.wrap ((k:Int)+1)=((k+1:Nat):Int):=IntWalk.i64_in _ (by omega)
   have hkl:k<ii.length:=by rw[←HA.out];exact hkA
   obtain⟨pb,po,rfl,hpb,hpc⟩:=((HI0.out.call HIN.out.bel).call hin.bel) k (by rw[zl_length];exact hkl)
   rw[zl_getD hkl] at hpc
   have hpn:ii.getD k 0<n:=HSP.out.lt (.inl (getD_in hkl))
   have hst:=asg_set (n:=n) (List.nodup_append.1 HSP.out.nodup).1 U (fun _=>0) hkl
   obtain⟨x,hx⟩:∃ x,x=ii.getD k 0:=⟨_,rfl⟩
   rw[←hx] at hpc hpn hst
   have hxI:(x:Int)<n:=by omega
   have hx0:(0:Int)≤x:=by omega
   obtain⟨q,hq⟩:∃ q,q=U k:=⟨_,rfl⟩
   have hqe:(vl A U).getD k 0=q:=by rw[vl_getD U hkA,hq]
   obtain⟨xb,xo,_,B1,B2,B3,B4,B5,e1,hxb,hf1,hf2,y0,y1,y2,y3,y4⟩:=(HU.out.call hin.bel).at (i:=k) (by rw[vl_length];exact hkA)
   rw[hqe] at hf1 hf2
   simp only[Value.slice.injEq] at e1
   obtain⟨rfl,-,-⟩:=e1
   have hlt:x<(vl n (asg ii U (fun _=>0) k)).length:=by rw[vl_length];exact hpn
   obtain⟨_,_,_,_,_,_,c0',c1',c2',c3',c4',f0,f1,f2,f3,f4⟩:=VBx.cells bv hlt
   have hgl:=bv.lt
   have hs:=VBx.setA bv x q hlt hf1
   rw[←hq] at hst
   rw[hst] at hs
   have H1:=Lib.hid hs
   have H2:=Lib.hid (hin.grown (gr_putA wr g x (.int .u64 B1) (.string B2) (.bool B3) (.int .u64 B4) (.string B5)) (Nat.le_of_eq HG.out.symm))
   clear hs hin bv hq hqe hx hf1 hf2 hkl hpn hst hlt
   go_wp2_with fail
   exact⟨⟨k+1,by omega,by go_num,H2.out,H1.out⟩,by simp[RowKit.intOf];omega⟩
  ·obtain rfl:k=A:=by omega
   have hkI:¬ (k:Int)<k:=by omega
   have hBr:=HB.out.call hin.bel
   have p1:wr.cell? ⟨p,1,none⟩=some (.slice a1 O c1):=hBr.box.cell 1
   have pl:=hBr.box.lt
   have bv2:VBx wr g (vl n (asg oo y (asg ii U (fun _=>0) k) 0)):=by rw[asg_zero];exact bv
   clear hBr bv
   go_wp2_with fail
   clear p1 pl
   go_loopw [74] (fun v74 wr=>∃ t:Nat,t≤O∧v74=.int .i64 t∧In W2.heap.size W2 wr∧VBx wr g (vl n (asg oo y (asg ii U (fun _=>0) k) t))) (fun v74 _=>O - (RowKit.intOf v74).toNat)
   case atStart=>exact⟨0,Nat.zero_le _,rfl,hin,bv2⟩
   case round=>
    clear hin bv2
    obtain⟨t,ht,rfl,hin,bv⟩:=hrel
    rename World=>wq
    by_cases htO:t<O
    ·have htI:(t:Int)<O:=by omega
     have ht0:(0:Int)≤t:=by omega
     have htw:IntKind.i64.wrap ((t:Int)+1)=((t+1:Nat):Int):=IntWalk.i64_in _ (by omega)
     have htl:t<oo.length:=by rw[←HO.out];exact htO
     obtain⟨pb,po,rfl,hpb,hpc⟩:=((HI1.out.call HIN.out.bel).call hin.bel) t (by rw[zl_length];exact htl)
     rw[zl_getD htl] at hpc
     have hpn:oo.getD t 0<n:=HSP.out.lt (.inr (getD_in htl))
     have hst:=asg_set (n:=n) (List.nodup_append.1 HSP.out.nodup).2.1 y (asg ii U (fun _=>0) k) htl
     obtain⟨x,hx⟩:∃ x,x=oo.getD t 0:=⟨_,rfl⟩
     rw[←hx] at hpc hpn hst
     have hxI:(x:Int)<n:=by omega
     have hx0:(0:Int)≤x:=by omega
     obtain⟨q,hq⟩:∃ q,q=y t:=⟨_,rfl⟩
     have hqe:(vl O y).getD t 0=q:=by rw[vl_getD y htO,hq]
     obtain⟨xb,xo,_,B1,B2,B3,B4,B5,e1,hxb,hf1,hf2,y0,y1,y2,y3,y4⟩:=((HY.out.call HIN.out.bel).call hin.bel).at (i:=t) (by rw[vl_length];exact htO)
     rw[hqe] at hf1 hf2
     simp only[Value.slice.injEq] at e1
     obtain⟨rfl,-,-⟩:=e1
     have hlt:x<(vl n (asg oo y (asg ii U (fun _=>0) k) t)).length:=by rw[vl_length];exact hpn
     obtain⟨_,_,_,_,_,_,c0',c1',c2',c3',c4',f0,f1,f2,f3,f4⟩:=VBx.cells bv hlt
     have hgl:=bv.lt
     have hs:=VBx.setA bv x q hlt hf1
     rw[←hq] at hst
     rw[hst] at hs
     have H1:=Lib.hid hs
     have H2:=Lib.hid (hin.grown (gr_putA wq g x (.int .u64 B1) (.string B2) (.bool B3) (.int .u64 B4) (.string B5)) (Nat.le_of_eq HG.out.symm))
     clear hs hin bv hq hqe hx hf1 hf2 htl hpn hst hlt
     go_wp2_with fail
     exact⟨⟨t+1,by omega,by go_num,H2.out,H1.out⟩,by simp[RowKit.intOf];omega⟩
    ·obtain rfl:t=O:=by omega
     have htI:¬ (t:Int)<t:=by omega
     rw[HA.out,HO.out,asg_full HSP.out U y] at bv
     have hv:VecAt wq (.slice (some ⟨g,0,none⟩) n n) (vl n (put2 ii oo U y)):=VBx.at bv n (vl_length _ _).symm n
     have H1:=Lib.hid hv
     have H2:=Lib.hid (HIN.out.call hin.bel)
     clear bv hin hv
     go_wp2_with fail
     go_ret
     exact⟨⟨_,rfl,H1.out⟩,H2.out.bel⟩
end Gus
end
