/- Proved here: parts of the proof: KSqm. Conditions: those that each theorem states. -/
import Derived.Test.YthblojaeoiemmaaGreatDoorKSqgQ
section
namespace Gus
open Go Go.RowKit Go.Proofs
theorem MatS.open3 {w:World} {u v z:Value} {r c:Nat} {F:Mx} (h:MatS w (.agg #[u,v,z]) r c F):∃ g n,u=.int .i64 r∧v=.int .i64 c∧z=.slice (some ⟨g,0,none⟩) n n:=by
 obtain⟨g,n,_,he,_⟩:=h
 have h9:=congrArg (fun v=>match v with | Value.agg a=>a.toList | _=>[]) he
 simp only[List.cons.injEq,and_true] at h9
 exact⟨g,n,h9.1,h9.2.1,h9.2.2⟩
theorem MatAt.setTy {w:World} {S j r c:Nat} {v x:Value} {qs:List Rat} {T:TypeId} {cs:List Value} (h:MatAt w v r c qs) (hS:Bx w S T cs) (hT:T≠72):MatAt (w.setCell ⟨S,j,none⟩ x) v r c qs:=by
 obtain⟨y,h1,h2,h3⟩:=h
 exact⟨y,h1,h2,h3.grown hS hT (gr_cell w ⟨S,j,none⟩ x)⟩
theorem GrpAt.ints {w:World} {a:Option Addr} {k c:Nat} {l:List Nat} (h:GrpAt w (.slice a k c) l):IntsAt w a (zl l):=by
 obtain⟨a',c',he,hi⟩:=h
 injection he with e1 _ _
 subst e1
 exact hi
theorem info_ints1:(Tryz.prog.info? 22).map (fun i=>i.size)=some 1:=by kernel_rfl
theorem idx_s0 (a0 a1:Option Addr) (A c0 O c1:Nat) (w:World):(Instr.index 165 (.agg #[.slice a0 A c0,.slice a1 O c1]) (.int .i64 0)).run Tryz.prog w=.ok (.slice a0 A c0) w:=by
 obtain⟨i,hi,hs⟩:=Option.map_eq_some_iff.1 info_ints1
 simp[Instr.index,asIntOf,run_underlying Tryz.underlying165,part,Go.sizeOf,typeInfo,hi,hs,go_sem]
theorem idx_s1 (a0 a1:Option Addr) (A c0 O c1:Nat) (w:World):(Instr.index 165 (.agg #[.slice a0 A c0,.slice a1 O c1]) (.int .i64 1)).run Tryz.prog w=.ok (.slice a1 O c1) w:=by
 obtain⟨i,hi,hs⟩:=Option.map_eq_some_iff.1 info_ints1
 simp[Instr.index,asIntOf,run_underlying Tryz.underlying165,part,Go.sizeOf,typeInfo,hi,hs,go_sem]
def CutSt (w:World) (p:Nat) (s0 s1:Value) (ii oo:List Nat) (M:Mx) (t:Nat):Prop:=∃ u0 v0 z0 u1 v1 z1 u2 v2 z2 u3 v3 z3:Value,Bx w p 169 [s0,s1,u0,v0,z0,u1,v1,z1,u2,v2,z2,u3,v3,z3,.int .i64 0,.int .i64 0,.slice none 0 0,.int .i64 0,.int .i64 0,.slice none 0 0]∧(0<t→MatS w (.agg #[u0,v0,z0]) ii.length ii.length (sub M ii ii))∧(1<t→MatS w (.agg #[u1,v1,z1]) ii.length oo.length (sub M ii oo))∧(2<t→MatS w (.agg #[u2,v2,z2]) oo.length ii.length (sub M oo ii))∧(3<t→MatS w (.agg #[u3,v3,z3]) oo.length oo.length (sub M oo oo))
def SCutP (w:World) (ii oo:List Nat) (M:Mx) (e:Ending) (w':World):Prop:=((NS ii.length (sub M ii ii)∧∃ d,e=.returned (.tuple #[d,.int .i64 0])∧SplitAt w' d ii oo M (invM ii.length (sub M ii ii)))∨(¬ NS ii.length (sub M ii ii)∧e=.returned (.tuple #[.pointer none,.int .i64 6])))∧Below w.heap.size w w'
set_option maxRecDepth 100000 in
set_option maxHeartbeats 40000000 in
theorem scut_any {z:Nat} (w:World) (v gv:Value) (n:Nat) (ii:List Nat) (M:Mx) (hM:MatS w v n n M) (hG:GrpAt w gv ii) (hg:Grp n ii) (hn:n≤16) (hz:1≤z) (hzM:Mz n n z M) (hcap:5*(z*5 ^ ii.length)+2<17592186044416) (hcap2:NS ii.length (sub M ii ii)→gz ii.length z<17592186044416) :
  Calls Tryz.prog 49 #[v,gv] w (SCutP w ii (outer n ii) M):=by
 have hil:=hg.le
 obtain⟨ag,N,kd,hN,rfl⟩:=hM.shape
 have hM0:=Lib.hid hM
 obtain⟨a0,c0,rfl⟩:=hG.shape
 have HG:=Lib.hid hG
 obtain⟨oo,hoo⟩:∃ oo,oo=outer n ii:=⟨_,rfl⟩
 have hs:Split n ii oo:=by rw[hoo];exact hg.split
 have crest:=fun W (h:Below w.heap.size w W)=>srest_any W n (by omega) a0 c0 ii (by obtain⟨a,c,he,hi⟩:=hG;injection he with e1 e2 e3;subst e1;exact hi.call h) hil hg.2
 rw[←hoo] at crest ⊢
 have hlen:=hs.len
 have hi:∀ i∈ii,i<n:=fun i h=>hs.lt (.inl h)
 have ho:∀ i∈oo,i<n:=fun i h=>hs.lt (.inr h)
 obtain⟨A,hA⟩:∃ A,A=ii.length:=⟨_,rfl⟩
 obtain⟨O,hO⟩:∃ O,O=oo.length:=⟨_,rfl⟩
 have HA:=Lib.hid hA
 have HO:=Lib.hid hO
 rw[←hA] at crest ⊢
 have HI:=Lib.hid hi
 have HO2:=Lib.hid ho
 have hAn:A≤16:=by omega
 have hOn:O≤16:=by omega
 have HZM:=Lib.hid hzM
 have HCAP:=Lib.hid hcap
 have HCAP2:=Lib.hid hcap2
 clear hM hG hoo hs hi ho hA hO hN hlen hil hg hzM hcap hcap2
 have hin:=In.self w
 go_enter Tryz.func49,Tryz.ntmps49
 go_upto_region 1 with fail
 ((obtain⟨X,hX⟩:∃ z,z=w.heap.size:=⟨_,rfl⟩);(have bX:=Bx.new_at w #[.int .i64 n,.int .i64 n,.slice ag N kd] 37 hX);(replace hin:=hin.alloc (.cells #[.int .i64 n,.int .i64 n,.slice ag N kd] 37));(rw[←hX]);clear hX;(generalize w.alloc (.cells #[.int .i64 n,.int .i64 n,.slice ag N kd] 37)=W1 at *))
 (have x0:=bX.c0;have x1:=bX.c1;have x2:=bX.c2;have xl:=bX.lt)
 (go_wp2_with fail;(((with_reducible refine(crest _ hin.bel).mono ?_)));(rintro e W0 ⟨⟨d,rfl,hd⟩,hb⟩);clear x0 x1 x2 xl crest;replace hin:=hin.call hb;replace bX:=bX.call hb;clear hb)
 have HD:=Lib.hid hd
 obtain⟨a1,c1,rfl⟩:=hd.shape
 rw[←HO.out] at HD
 obtain⟨O',hO'⟩:∃ O',O'=oo.length:=⟨_,rfl⟩
 obtain rfl:O'=O:=hO'.trans HO.out.symm
 rw[←hO']
 have hM1:=Lib.hid (hM0.out.call hin.bel)
 have HG1:=Lib.hid (HG.out.call hin.bel)
 have HBX:=Lib.hid bX
 have HIN:=Lib.hid hin
 clear hO' hd hin bX hM0 HG
 go_upto_region 2 with fail
 obtain⟨p,hp⟩:∃ p,p=W0.heap.size:=⟨_,rfl⟩
 have HP:Hid (W0.heap.size≤p):=Lib.hid (Nat.le_of_eq hp.symm)
 have bP:=Bx.new_at W0 #[.slice a0 A c0,.slice a1 O' c1,.int .i64 0,.int .i64 0,.slice none 0 0,.int .i64 0,.int .i64 0,.slice none 0 0,.int .i64 0,.int .i64 0,.slice none 0 0,.int .i64 0,.int .i64 0,.slice none 0 0,.int .i64 0,.int .i64 0,.slice none 0 0,.int .i64 0,.int .i64 0,.slice none 0 0] 169 hp
 have hi1:=(In.self W0).alloc (.cells #[.slice a0 A c0,.slice a1 O' c1,.int .i64 0,.int .i64 0,.slice none 0 0,.int .i64 0,.int .i64 0,.slice none 0 0,.int .i64 0,.int .i64 0,.slice none 0 0,.int .i64 0,.int .i64 0,.slice none 0 0,.int .i64 0,.int .i64 0,.slice none 0 0,.int .i64 0,.int .i64 0,.slice none 0 0] 169)
 rw[←hp]
 have hst:CutSt (W0.alloc (.cells #[.slice a0 A c0,.slice a1 O' c1,.int .i64 0,.int .i64 0,.slice none 0 0,.int .i64 0,.int .i64 0,.slice none 0 0,.int .i64 0,.int .i64 0,.slice none 0 0,.int .i64 0,.int .i64 0,.slice none 0 0,.int .i64 0,.int .i64 0,.slice none 0 0,.int .i64 0,.int .i64 0,.slice none 0 0] 169)) p (.slice a0 A c0) (.slice a1 O' c1) ii oo M (2*0):=⟨_,_,_,_,_,_,_,_,_,_,_,_,bP,fun h=>absurd h (by omega),fun h=>absurd h (by omega),fun h=>absurd h (by omega),fun h=>absurd h (by omega)⟩
 have p0:=bP.c0
 have p1:=bP.c1
 have pl:=bP.lt
 clear hp bP
 generalize W0.alloc (.cells #[.slice a0 A c0,.slice a1 O' c1,.int .i64 0,.int .i64 0,.slice none 0 0,.int .i64 0,.int .i64 0,.slice none 0 0,.int .i64 0,.int .i64 0,.slice none 0 0,.int .i64 0,.int .i64 0,.slice none 0 0,.int .i64 0,.int .i64 0,.slice none 0 0,.int .i64 0,.int .i64 0,.slice none 0 0] 169)=W1 at *
 go_wp2_with fail
 clear p0 p1 pl
 have hs0:=fun W=>idx_s0 a0 a1 A c0 O' c1 W
 have hs1:=fun W=>idx_s1 a0 a1 A c0 O' c1 W
 go_loopw [27] (fun v27 wr=>∃ (i:Nat) (x:Int),i≤2∧x=i∧v27=.int .i64 x∧In W0.heap.size W0 wr∧CutSt wr p (.slice a0 A c0) (.slice a1 O' c1) ii oo M (2*i)) (fun v27 _=>2 - (RowKit.intOf v27).toNat)
 case atStart=>exact⟨0,0,Nat.zero_le _,rfl,rfl,hi1,hst⟩
 case round=>
  clear hi1 hst
  obtain⟨i,xi,hi,hxi,rfl,hin,hst⟩:=hrel
  obtain⟨u0,v0,z0,u1,v1,z1,u2,v2,z2,u3,v3,z3,bP,-⟩:=id hst
  have p0:=bP.c0
  have p1:=bP.c1
  have pl:=bP.lt
  clear bP
  obtain rfl | rfl | rfl:i=0∨i=1∨i=2:=by omega
  ·obtain rfl:xi=0:=by omega
   clear hxi
   go_wp2_with fail
   clear p0 p1 pl
   go_loopw [35] (fun v35 wq=>∃ (k:Nat) (x:Int),k≤2∧x=k∧v35=.int .i64 x∧In W0.heap.size W0 wq∧CutSt wq p (.slice a0 A c0) (.slice a1 O' c1) ii oo M (0+k)) (fun v35 _=>2 - (RowKit.intOf v35).toNat)
   case atStart=>exact⟨0,0,Nat.zero_le _,rfl,rfl,hin,hst⟩
   case round=>
    clear hin hst
    rename World=>wq
    obtain⟨k,xk,hk,hxk,rfl,hin,hst⟩:=hrel
    obtain rfl | rfl | rfl:k=0∨k=1∨k=2:=by omega
    ·obtain rfl:xk=0:=by omega
     clear hxk
     go_upto_region 8 with fail
     have bx:=HBX.out.call hin.bel
     have x0:=bx.c0;have x1:=bx.c1;have x2:=bx.c2;have xl:=bx.lt
     obtain⟨u0,v0,z0,u1,v1,z1,u2,v2,z2,u3,v3,z3,bP9,-⟩:=id hst
     have p0:=bP9.c0
     have pl:=bP9.lt
     clear bP9
     have cpt:=fun W (h:In wq.heap.size wq W)=>mpart_tup W _ n M ((hM1.out.call hin.bel).call h.bel) (by omega) _ _ ii ii ((HG1.out.call hin.bel).call h.bel) ((HG1.out.call hin.bel).call h.bel) HI.out HI.out (by rw[←HA.out];omega) (by rw[←HA.out];omega)
     rw[←HA.out] at cpt
     have h:=In.self wq;have hc:=h.cell;have hf:=h.frozen;refine tfw 14 ?_;refine tset ?_;(repeat (first | refine tfs ?_))
     (with_reducible refine flow_rel (Vi:=TupR (MsQ A A (sub M ii ii))) false ?_ ?_ ?_ ?_ ?_ ?_);(focus rfl);(focus rfl);(focus exact stable_msq _ _ _);(focus exact placed_false _);(focus (intro u w1 hw hd;replace hd:=thn hd;have hc':=hw.cell;go_simp;(try simp only[okUpon]);go_at_call 70;((with_reducible refine(cpt _ hw.ins).mono ?_));rintro e w'' ⟨⟨v,rfl,hv⟩,hb⟩;exact⟨v,rfl,⟨hv,fun h=>by cases h⟩,hb⟩))
     (((with_reducible refine flow_link (k:=6) (R:=MvR) ?_ ?_ ?_ ?_);(focus rfl);(focus rfl);(focus (intro u w1 hw hd;replace hd:=thn hd;obtain⟨⟨n,m,a,l,k,e,h3⟩,_⟩:=hd;exact⟨u 6,fun w2=>(by go_simp),rfl,n,m,a,l,k,e,h3⟩)));((with_reducible refine flow_link (k:=7) (R:=FstR) ?_ ?_ ?_ ?_);(focus rfl);(focus rfl);(focus (intro u w1 hw hd;replace hd:=thn hd;obtain⟨h4,n,m,a,l,k,e,h5⟩:=hd;exact⟨.agg #[.int .i64 n,.int .i64 m,.slice a l k],fun w2=>(by clear h4;go_simp),n,m,a,l,k,e,h5,rfl⟩)));((with_reducible refine flow_link (k:=7) (R:=SndR) ?_ ?_ ?_ ?_);(focus rfl);(focus rfl);(focus (intro u w1 hw hd;replace hd:=thn hd;obtain⟨h4,n,m,a,l,k,e,h5⟩:=hd;exact⟨.int .i64 e,fun w2=>(by clear h4;go_simp),n,m,a,l,k,e,h5,rfl⟩))))
     (repeat (first | refine tfs ?_))
     (try clear hc hf h);intro u w' h ha hdi;replace h:=tsz h.ins;replace ha:=tah ha;have hc:=h.cell;have hf:=h.frozen
     (try simp only[ext,Nat.reduceEqDiff,reduceIte] at ha)
     obtain⟨⟨⟨⟨⟨⟨⟨⟨hA9,h6⟩,h7⟩,h8⟩,h9⟩,h10⟩,h11⟩,h12⟩,h13⟩:=ha
     obtain⟨n1,m1,a9,l9,k9,e9,hx1,hx2,hx3,hx4,he9,hms⟩:=tup_out h6 h7 h8 h9
     (try dsimp only)
     simp only[hA9,hx3,hx4,h10,h11,h12,h13]
     clear hA9 h6 h7 h8 h9 h10 h11 h12 h13 hx1 hx2 hx3 hx4 he9 hdi
     obtain⟨u0,v0,z0,u1,v1,z1,u2,v2,z2,u3,v3,z3,bP,q0,q1,q2,q3⟩:=hst
     replace bP:=bP.call h.bel
     have d0:World.cell? w' ⟨p,2,none⟩=some u0:=bP.cell 2
     have f0:=bP.frozen 2
     have d1:World.cell? w' ⟨p,3,none⟩=some v0:=bP.cell 3
     have f1:=bP.frozen 3
     have d2:World.cell? w' ⟨p,4,none⟩=some z0:=bP.cell 4
     have f2:=bP.frozen 4
     have dl:=bP.lt
     have bQ:=(((bP.set 2 (.int .i64 n1)).set 3 (.int .i64 m1)).set 4 (.slice a9 l9 k9))
     simp only[List.set] at bQ
     have hcs:CutSt (((w'.setCell ⟨p,2,none⟩ (.int .i64 n1)).setCell ⟨p,3,none⟩ (.int .i64 m1)).setCell ⟨p,4,none⟩ (.slice a9 l9 k9)) p (.slice a0 A c0) (.slice a1 O' c1) ii oo M 1:=by
      exact⟨_,_,_,_,_,_,_,_,_,_,_,_,bQ,fun _=>by rw[←HA.out];exact(MatS.setTy (j:=4) (x:=(.slice a9 l9 k9)) (MatS.setTy (j:=3) (x:=(.int .i64 m1)) (MatS.setTy (j:=2) (x:=(.int .i64 n1)) hms bP (by decide)) (bP.set 2 (.int .i64 n1)) (by decide)) ((bP.set 2 (.int .i64 n1)).set 3 (.int .i64 m1)) (by decide)),fun h9=>absurd h9 (by omega),fun h9=>absurd h9 (by omega),fun h9=>absurd h9 (by omega)⟩
     have H1:=Lib.hid hcs
     have H2:=Lib.hid ((((hin.call h.bel).setCell (p:=⟨p,2,none⟩) HP.out (.int .i64 n1)).setCell (p:=⟨p,3,none⟩) HP.out (.int .i64 m1)).setCell (p:=⟨p,4,none⟩) HP.out (.slice a9 l9 k9))
     clear hcs bQ bP q0 q1 q2 q3 hms hin h hc hf cpt x0 x1 x2 xl bx p0 pl
     go_wp2_with fail
     exact⟨⟨1,1,by omega,rfl,rfl,H2.out,H1.out⟩,by simp[RowKit.intOf]⟩
    ·obtain rfl:xk=1:=by omega
     clear hxk
     go_upto_region 8 with fail
     have bx:=HBX.out.call hin.bel
     have x0:=bx.c0;have x1:=bx.c1;have x2:=bx.c2;have xl:=bx.lt
     obtain⟨u0,v0,z0,u1,v1,z1,u2,v2,z2,u3,v3,z3,bP9,-⟩:=id hst
     have p0:=bP9.c0
     have pl:=bP9.lt
     clear bP9
     have cpt:=fun W (h:In wq.heap.size wq W)=>mpart_tup W _ n M ((hM1.out.call hin.bel).call h.bel) (by omega) _ _ ii oo ((HG1.out.call hin.bel).call h.bel) ((HD.out.call hin.bel).call h.bel) HI.out HO2.out (by rw[←HA.out];omega) (by rw[←HO.out];omega)
     rw[←HA.out,←HO.out] at cpt
     have h:=In.self wq;have hc:=h.cell;have hf:=h.frozen;refine tfw 14 ?_;refine tset ?_;(repeat (first | refine tfs ?_))
     (with_reducible refine flow_rel (Vi:=TupR (MsQ A O' (sub M ii oo))) false ?_ ?_ ?_ ?_ ?_ ?_);(focus rfl);(focus rfl);(focus exact stable_msq _ _ _);(focus exact placed_false _);(focus (intro u w1 hw hd;replace hd:=thn hd;have hc':=hw.cell;go_simp;(try simp only[okUpon]);go_at_call 70;((with_reducible refine(cpt _ hw.ins).mono ?_));rintro e w'' ⟨⟨v,rfl,hv⟩,hb⟩;exact⟨v,rfl,⟨hv,fun h=>by cases h⟩,hb⟩))
     (((with_reducible refine flow_link (k:=6) (R:=MvR) ?_ ?_ ?_ ?_);(focus rfl);(focus rfl);(focus (intro u w1 hw hd;replace hd:=thn hd;obtain⟨⟨n,m,a,l,k,e,h3⟩,_⟩:=hd;exact⟨u 6,fun w2=>(by go_simp),rfl,n,m,a,l,k,e,h3⟩)));((with_reducible refine flow_link (k:=7) (R:=FstR) ?_ ?_ ?_ ?_);(focus rfl);(focus rfl);(focus (intro u w1 hw hd;replace hd:=thn hd;obtain⟨h4,n,m,a,l,k,e,h5⟩:=hd;exact⟨.agg #[.int .i64 n,.int .i64 m,.slice a l k],fun w2=>(by clear h4;go_simp),n,m,a,l,k,e,h5,rfl⟩)));((with_reducible refine flow_link (k:=7) (R:=SndR) ?_ ?_ ?_ ?_);(focus rfl);(focus rfl);(focus (intro u w1 hw hd;replace hd:=thn hd;obtain⟨h4,n,m,a,l,k,e,h5⟩:=hd;exact⟨.int .i64 e,fun w2=>(by clear h4;go_simp),n,m,a,l,k,e,h5,rfl⟩))))
     (repeat (first | refine tfs ?_))
     (try clear hc hf h);intro u w' h ha hdi;replace h:=tsz h.ins;replace ha:=tah ha;have hc:=h.cell;have hf:=h.frozen
     (try simp only[ext,Nat.reduceEqDiff,reduceIte] at ha)
     obtain⟨⟨⟨⟨⟨⟨⟨⟨hA9,h6⟩,h7⟩,h8⟩,h9⟩,h10⟩,h11⟩,h12⟩,h13⟩:=ha
     obtain⟨n1,m1,a9,l9,k9,e9,hx1,hx2,hx3,hx4,he9,hms⟩:=tup_out h6 h7 h8 h9
     (try dsimp only)
     simp only[hA9,hx3,hx4,h10,h11,h12,h13]
     clear hA9 h6 h7 h8 h9 h10 h11 h12 h13 hx1 hx2 hx3 hx4 he9 hdi
     obtain⟨u0,v0,z0,u1,v1,z1,u2,v2,z2,u3,v3,z3,bP,q0,q1,q2,q3⟩:=hst
     replace bP:=bP.call h.bel
     have d0:World.cell? w' ⟨p,5,none⟩=some u1:=bP.cell 5
     have f0:=bP.frozen 5
     have d1:World.cell? w' ⟨p,6,none⟩=some v1:=bP.cell 6
     have f1:=bP.frozen 6
     have d2:World.cell? w' ⟨p,7,none⟩=some z1:=bP.cell 7
     have f2:=bP.frozen 7
     have dl:=bP.lt
     have bQ:=(((bP.set 5 (.int .i64 n1)).set 6 (.int .i64 m1)).set 7 (.slice a9 l9 k9))
     simp only[List.set] at bQ
     have hcs:CutSt (((w'.setCell ⟨p,5,none⟩ (.int .i64 n1)).setCell ⟨p,6,none⟩ (.int .i64 m1)).setCell ⟨p,7,none⟩ (.slice a9 l9 k9)) p (.slice a0 A c0) (.slice a1 O' c1) ii oo M 2:=by
      exact⟨_,_,_,_,_,_,_,_,_,_,_,_,bQ,fun _=>(MatS.setTy (j:=7) (x:=(.slice a9 l9 k9)) (MatS.setTy (j:=6) (x:=(.int .i64 m1)) (MatS.setTy (j:=5) (x:=(.int .i64 n1)) ((q0 (by omega)).call h.bel) bP (by decide)) (bP.set 5 (.int .i64 n1)) (by decide)) ((bP.set 5 (.int .i64 n1)).set 6 (.int .i64 m1)) (by decide)),fun _=>by rw[←HA.out,←HO.out];exact(MatS.setTy (j:=7) (x:=(.slice a9 l9 k9)) (MatS.setTy (j:=6) (x:=(.int .i64 m1)) (MatS.setTy (j:=5) (x:=(.int .i64 n1)) hms bP (by decide)) (bP.set 5 (.int .i64 n1)) (by decide)) ((bP.set 5 (.int .i64 n1)).set 6 (.int .i64 m1)) (by decide)),fun h9=>absurd h9 (by omega),fun h9=>absurd h9 (by omega)⟩
     have H1:=Lib.hid hcs
     have H2:=Lib.hid ((((hin.call h.bel).setCell (p:=⟨p,5,none⟩) HP.out (.int .i64 n1)).setCell (p:=⟨p,6,none⟩) HP.out (.int .i64 m1)).setCell (p:=⟨p,7,none⟩) HP.out (.slice a9 l9 k9))
     clear hcs bQ bP q0 q1 q2 q3 hms hin h hc hf cpt x0 x1 x2 xl bx p0 pl
     go_wp2_with fail
     exact⟨⟨2,2,by omega,rfl,rfl,H2.out,H1.out⟩,by simp[RowKit.intOf]⟩
    ·obtain rfl:xk=2:=by omega
     have H1:=Lib.hid hst
     have H2:=Lib.hid hin
     clear hst hin hxk
     go_wp2_with fail
     exact⟨⟨1,1,by omega,rfl,rfl,H2.out,H1.out⟩,by simp[RowKit.intOf]⟩
  ·obtain rfl:xi=1:=by omega
   clear hxi
   go_wp2_with fail
   clear p0 p1 pl
   go_loopw [35] (fun v35 wq=>∃ (k:Nat) (x:Int),k≤2∧x=k∧v35=.int .i64 x∧In W0.heap.size W0 wq∧CutSt wq p (.slice a0 A c0) (.slice a1 O' c1) ii oo M (2+k)) (fun v35 _=>2 - (RowKit.intOf v35).toNat)
   case atStart=>exact⟨0,0,Nat.zero_le _,rfl,rfl,hin,hst⟩
   case round=>
    clear hin hst
    rename World=>wq
    obtain⟨k,xk,hk,hxk,rfl,hin,hst⟩:=hrel
    obtain rfl | rfl | rfl:k=0∨k=1∨k=2:=by omega
    ·obtain rfl:xk=0:=by omega
     clear hxk
     go_upto_region 8 with fail
     have bx:=HBX.out.call hin.bel
     have x0:=bx.c0;have x1:=bx.c1;have x2:=bx.c2;have xl:=bx.lt
     obtain⟨u0,v0,z0,u1,v1,z1,u2,v2,z2,u3,v3,z3,bP9,-⟩:=id hst
     have p0:=bP9.c0
     have pl:=bP9.lt
     clear bP9
     have cpt:=fun W (h:In wq.heap.size wq W)=>mpart_tup W _ n M ((hM1.out.call hin.bel).call h.bel) (by omega) _ _ oo ii ((HD.out.call hin.bel).call h.bel) ((HG1.out.call hin.bel).call h.bel) HO2.out HI.out (by rw[←HO.out];omega) (by rw[←HA.out];omega)
     rw[←HA.out,←HO.out] at cpt
     have h:=In.self wq;have hc:=h.cell;have hf:=h.frozen;refine tfw 14 ?_;refine tset ?_;(repeat (first | refine tfs ?_))
     (with_reducible refine flow_rel (Vi:=TupR (MsQ O' A (sub M oo ii))) false ?_ ?_ ?_ ?_ ?_ ?_);(focus rfl);(focus rfl);(focus exact stable_msq _ _ _);(focus exact placed_false _);(focus (intro u w1 hw hd;replace hd:=thn hd;have hc':=hw.cell;go_simp;(try simp only[okUpon]);go_at_call 70;((with_reducible refine(cpt _ hw.ins).mono ?_));rintro e w'' ⟨⟨v,rfl,hv⟩,hb⟩;exact⟨v,rfl,⟨hv,fun h=>by cases h⟩,hb⟩))
     (((with_reducible refine flow_link (k:=6) (R:=MvR) ?_ ?_ ?_ ?_);(focus rfl);(focus rfl);(focus (intro u w1 hw hd;replace hd:=thn hd;obtain⟨⟨n,m,a,l,k,e,h3⟩,_⟩:=hd;exact⟨u 6,fun w2=>(by go_simp),rfl,n,m,a,l,k,e,h3⟩)));((with_reducible refine flow_link (k:=7) (R:=FstR) ?_ ?_ ?_ ?_);(focus rfl);(focus rfl);(focus (intro u w1 hw hd;replace hd:=thn hd;obtain⟨h4,n,m,a,l,k,e,h5⟩:=hd;exact⟨.agg #[.int .i64 n,.int .i64 m,.slice a l k],fun w2=>(by clear h4;go_simp),n,m,a,l,k,e,h5,rfl⟩)));((with_reducible refine flow_link (k:=7) (R:=SndR) ?_ ?_ ?_ ?_);(focus rfl);(focus rfl);(focus (intro u w1 hw hd;replace hd:=thn hd;obtain⟨h4,n,m,a,l,k,e,h5⟩:=hd;exact⟨.int .i64 e,fun w2=>(by clear h4;go_simp),n,m,a,l,k,e,h5,rfl⟩))))
     (repeat (first | refine tfs ?_))
     (try clear hc hf h);intro u w' h ha hdi;replace h:=tsz h.ins;replace ha:=tah ha;have hc:=h.cell;have hf:=h.frozen
     (try simp only[ext,Nat.reduceEqDiff,reduceIte] at ha)
     obtain⟨⟨⟨⟨⟨⟨⟨⟨hA9,h6⟩,h7⟩,h8⟩,h9⟩,h10⟩,h11⟩,h12⟩,h13⟩:=ha
     obtain⟨n1,m1,a9,l9,k9,e9,hx1,hx2,hx3,hx4,he9,hms⟩:=tup_out h6 h7 h8 h9
     (try dsimp only)
     simp only[hA9,hx3,hx4,h10,h11,h12,h13]
     clear hA9 h6 h7 h8 h9 h10 h11 h12 h13 hx1 hx2 hx3 hx4 he9 hdi
     obtain⟨u0,v0,z0,u1,v1,z1,u2,v2,z2,u3,v3,z3,bP,q0,q1,q2,q3⟩:=hst
     replace bP:=bP.call h.bel
     have d0:World.cell? w' ⟨p,8,none⟩=some u2:=bP.cell 8
     have f0:=bP.frozen 8
     have d1:World.cell? w' ⟨p,9,none⟩=some v2:=bP.cell 9
     have f1:=bP.frozen 9
     have d2:World.cell? w' ⟨p,10,none⟩=some z2:=bP.cell 10
     have f2:=bP.frozen 10
     have dl:=bP.lt
     have bQ:=(((bP.set 8 (.int .i64 n1)).set 9 (.int .i64 m1)).set 10 (.slice a9 l9 k9))
     simp only[List.set] at bQ
     have hcs:CutSt (((w'.setCell ⟨p,8,none⟩ (.int .i64 n1)).setCell ⟨p,9,none⟩ (.int .i64 m1)).setCell ⟨p,10,none⟩ (.slice a9 l9 k9)) p (.slice a0 A c0) (.slice a1 O' c1) ii oo M 3:=by
      exact⟨_,_,_,_,_,_,_,_,_,_,_,_,bQ,fun _=>(MatS.setTy (j:=10) (x:=(.slice a9 l9 k9)) (MatS.setTy (j:=9) (x:=(.int .i64 m1)) (MatS.setTy (j:=8) (x:=(.int .i64 n1)) ((q0 (by omega)).call h.bel) bP (by decide)) (bP.set 8 (.int .i64 n1)) (by decide)) ((bP.set 8 (.int .i64 n1)).set 9 (.int .i64 m1)) (by decide)),fun _=>(MatS.setTy (j:=10) (x:=(.slice a9 l9 k9)) (MatS.setTy (j:=9) (x:=(.int .i64 m1)) (MatS.setTy (j:=8) (x:=(.int .i64 n1)) ((q1 (by omega)).call h.bel) bP (by decide)) (bP.set 8 (.int .i64 n1)) (by decide)) ((bP.set 8 (.int .i64 n1)).set 9 (.int .i64 m1)) (by decide)),fun _=>by rw[←HO.out,←HA.out];exact(MatS.setTy (j:=10) (x:=(.slice a9 l9 k9)) (MatS.setTy (j:=9) (x:=(.int .i64 m1)) (MatS.setTy (j:=8) (x:=(.int .i64 n1)) hms bP (by decide)) (bP.set 8 (.int .i64 n1)) (by decide)) ((bP.set 8 (.int .i64 n1)).set 9 (.int .i64 m1)) (by decide)),fun h9=>absurd h9 (by omega)⟩
     have H1:=Lib.hid hcs
     have H2:=Lib.hid ((((hin.call h.bel).setCell (p:=⟨p,8,none⟩) HP.out (.int .i64 n1)).setCell (p:=⟨p,9,none⟩) HP.out (.int .i64 m1)).setCell (p:=⟨p,10,none⟩) HP.out (.slice a9 l9 k9))
     clear hcs bQ bP q0 q1 q2 q3 hms hin h hc hf cpt x0 x1 x2 xl bx p0 pl
     go_wp2_with fail
     exact⟨⟨1,1,by omega,rfl,rfl,H2.out,H1.out⟩,by simp[RowKit.intOf]⟩
    ·obtain rfl:xk=1:=by omega
     clear hxk
     go_upto_region 8 with fail
     have bx:=HBX.out.call hin.bel
     have x0:=bx.c0;have x1:=bx.c1;have x2:=bx.c2;have xl:=bx.lt
     obtain⟨u0,v0,z0,u1,v1,z1,u2,v2,z2,u3,v3,z3,bP9,-⟩:=id hst
     have p0:=bP9.c0
     have pl:=bP9.lt
     clear bP9
     have cpt:=fun W (h:In wq.heap.size wq W)=>mpart_tup W _ n M ((hM1.out.call hin.bel).call h.bel) (by omega) _ _ oo oo ((HD.out.call hin.bel).call h.bel) ((HD.out.call hin.bel).call h.bel) HO2.out HO2.out (by rw[←HO.out];omega) (by rw[←HO.out];omega)
     rw[←HO.out] at cpt
     have h:=In.self wq;have hc:=h.cell;have hf:=h.frozen;refine tfw 14 ?_;refine tset ?_;(repeat (first | refine tfs ?_))
     (with_reducible refine flow_rel (Vi:=TupR (MsQ O' O' (sub M oo oo))) false ?_ ?_ ?_ ?_ ?_ ?_);(focus rfl);(focus rfl);(focus exact stable_msq _ _ _);(focus exact placed_false _);(focus (intro u w1 hw hd;replace hd:=thn hd;have hc':=hw.cell;go_simp;(try simp only[okUpon]);go_at_call 70;((with_reducible refine(cpt _ hw.ins).mono ?_));rintro e w'' ⟨⟨v,rfl,hv⟩,hb⟩;exact⟨v,rfl,⟨hv,fun h=>by cases h⟩,hb⟩))
     (((with_reducible refine flow_link (k:=6) (R:=MvR) ?_ ?_ ?_ ?_);(focus rfl);(focus rfl);(focus (intro u w1 hw hd;replace hd:=thn hd;obtain⟨⟨n,m,a,l,k,e,h3⟩,_⟩:=hd;exact⟨u 6,fun w2=>(by go_simp),rfl,n,m,a,l,k,e,h3⟩)));((with_reducible refine flow_link (k:=7) (R:=FstR) ?_ ?_ ?_ ?_);(focus rfl);(focus rfl);(focus (intro u w1 hw hd;replace hd:=thn hd;obtain⟨h4,n,m,a,l,k,e,h5⟩:=hd;exact⟨.agg #[.int .i64 n,.int .i64 m,.slice a l k],fun w2=>(by clear h4;go_simp),n,m,a,l,k,e,h5,rfl⟩)));((with_reducible refine flow_link (k:=7) (R:=SndR) ?_ ?_ ?_ ?_);(focus rfl);(focus rfl);(focus (intro u w1 hw hd;replace hd:=thn hd;obtain⟨h4,n,m,a,l,k,e,h5⟩:=hd;exact⟨.int .i64 e,fun w2=>(by clear h4;go_simp),n,m,a,l,k,e,h5,rfl⟩))))
     (repeat (first | refine tfs ?_))
     (try clear hc hf h);intro u w' h ha hdi;replace h:=tsz h.ins;replace ha:=tah ha;have hc:=h.cell;have hf:=h.frozen
     (try simp only[ext,Nat.reduceEqDiff,reduceIte] at ha)
     obtain⟨⟨⟨⟨⟨⟨⟨⟨hA9,h6⟩,h7⟩,h8⟩,h9⟩,h10⟩,h11⟩,h12⟩,h13⟩:=ha
     obtain⟨n1,m1,a9,l9,k9,e9,hx1,hx2,hx3,hx4,he9,hms⟩:=tup_out h6 h7 h8 h9
     (try dsimp only)
     simp only[hA9,hx3,hx4,h10,h11,h12,h13]
     clear hA9 h6 h7 h8 h9 h10 h11 h12 h13 hx1 hx2 hx3 hx4 he9 hdi
     obtain⟨u0,v0,z0,u1,v1,z1,u2,v2,z2,u3,v3,z3,bP,q0,q1,q2,q3⟩:=hst
     replace bP:=bP.call h.bel
     have d0:World.cell? w' ⟨p,11,none⟩=some u3:=bP.cell 11
     have f0:=bP.frozen 11
     have d1:World.cell? w' ⟨p,12,none⟩=some v3:=bP.cell 12
     have f1:=bP.frozen 12
     have d2:World.cell? w' ⟨p,13,none⟩=some z3:=bP.cell 13
     have f2:=bP.frozen 13
     have dl:=bP.lt
     have bQ:=(((bP.set 11 (.int .i64 n1)).set 12 (.int .i64 m1)).set 13 (.slice a9 l9 k9))
     simp only[List.set] at bQ
     have hcs:CutSt (((w'.setCell ⟨p,11,none⟩ (.int .i64 n1)).setCell ⟨p,12,none⟩ (.int .i64 m1)).setCell ⟨p,13,none⟩ (.slice a9 l9 k9)) p (.slice a0 A c0) (.slice a1 O' c1) ii oo M 4:=by
      exact⟨_,_,_,_,_,_,_,_,_,_,_,_,bQ,fun _=>(MatS.setTy (j:=13) (x:=(.slice a9 l9 k9)) (MatS.setTy (j:=12) (x:=(.int .i64 m1)) (MatS.setTy (j:=11) (x:=(.int .i64 n1)) ((q0 (by omega)).call h.bel) bP (by decide)) (bP.set 11 (.int .i64 n1)) (by decide)) ((bP.set 11 (.int .i64 n1)).set 12 (.int .i64 m1)) (by decide)),fun _=>(MatS.setTy (j:=13) (x:=(.slice a9 l9 k9)) (MatS.setTy (j:=12) (x:=(.int .i64 m1)) (MatS.setTy (j:=11) (x:=(.int .i64 n1)) ((q1 (by omega)).call h.bel) bP (by decide)) (bP.set 11 (.int .i64 n1)) (by decide)) ((bP.set 11 (.int .i64 n1)).set 12 (.int .i64 m1)) (by decide)),fun _=>(MatS.setTy (j:=13) (x:=(.slice a9 l9 k9)) (MatS.setTy (j:=12) (x:=(.int .i64 m1)) (MatS.setTy (j:=11) (x:=(.int .i64 n1)) ((q2 (by omega)).call h.bel) bP (by decide)) (bP.set 11 (.int .i64 n1)) (by decide)) ((bP.set 11 (.int .i64 n1)).set 12 (.int .i64 m1)) (by decide)),fun _=>by rw[←HO.out];exact(MatS.setTy (j:=13) (x:=(.slice a9 l9 k9)) (MatS.setTy (j:=12) (x:=(.int .i64 m1)) (MatS.setTy (j:=11) (x:=(.int .i64 n1)) hms bP (by decide)) (bP.set 11 (.int .i64 n1)) (by decide)) ((bP.set 11 (.int .i64 n1)).set 12 (.int .i64 m1)) (by decide))⟩
     have H1:=Lib.hid hcs
     have H2:=Lib.hid ((((hin.call h.bel).setCell (p:=⟨p,11,none⟩) HP.out (.int .i64 n1)).setCell (p:=⟨p,12,none⟩) HP.out (.int .i64 m1)).setCell (p:=⟨p,13,none⟩) HP.out (.slice a9 l9 k9))
     clear hcs bQ bP q0 q1 q2 q3 hms hin h hc hf cpt x0 x1 x2 xl bx p0 pl
     go_wp2_with fail
     exact⟨⟨2,2,by omega,rfl,rfl,H2.out,H1.out⟩,by simp[RowKit.intOf]⟩
    ·obtain rfl:xk=2:=by omega
     have H1:=Lib.hid hst
     have H2:=Lib.hid hin
     clear hst hin hxk
     go_wp2_with fail
     exact⟨⟨2,2,by omega,rfl,rfl,H2.out,H1.out⟩,by simp[RowKit.intOf]⟩
  ·obtain rfl:xi=2:=by omega
   clear p0 p1 pl hxi hs0 hs1
   obtain⟨u0,v0,z0,u1,v1,z1,u2,v2,z2,u3,v3,z3,bP,q0,q1,q2,q3⟩:=hst
   have m0:=q0 (by omega)
   have m1:=q1 (by omega)
   have m2:=q2 (by omega)
   have m3:=q3 (by omega)
   have hzAA:=sub_szk HZM.out HI.out HI.out
   have hzOA:=sub_szk HZM.out HO2.out HI.out
   have hzAO:=sub_szk HZM.out HI.out HO2.out
   have hc2:=HCAP2.out
   have hc1:=HCAP.out
   rw[←HA.out] at m0 m1 m2 hzAA hzOA hzAO hc1 hc2
   rw[←HO.out] at m1 m2 m3 hzOA hzAO
   have HC2:=Lib.hid hc2
   have HOA:=Lib.hid hzOA
   have HAO:=Lib.hid hzAO
   obtain⟨g00,n00,rfl,rfl,rfl⟩:=m0.open3
   obtain⟨g01,n01,rfl,rfl,rfl⟩:=m1.open3
   obtain⟨g10,n10,rfl,rfl,rfl⟩:=m2.open3
   obtain⟨g11,n11,rfl,rfl,rfl⟩:=m3.open3
   have ci:=einverse_any wr _ A (sub M ii ii) m0 hAn hz hzAA hc1
   have HAA:=Lib.hid hzAA
   clear q0 q1 q2 q3 hc1 hc2 hzAA hzOA hzAO
   have p0:=bP.c0
   have d2:World.cell? wr ⟨p,2,none⟩=some (.int .i64 A):=bP.cell 2
   have d3:World.cell? wr ⟨p,3,none⟩=some (.int .i64 A):=bP.cell 3
   have d4:World.cell? wr ⟨p,4,none⟩=some (.slice (some ⟨g00,0,none⟩) n00 n00):=bP.cell 4
   have dl:=bP.lt
   (go_wp2_with fail;(((with_reducible refine(ci).mono ?_)));(rintro e w2 ⟨hI,hb⟩);clear p0 d2 d3 d4 dl ci m0;replace hin:=hin.call hb;replace m1:=m1.call hb;replace m2:=m2.call hb;replace m3:=m3.call hb;replace bP:=bP.call hb;clear hb)
   rcases hI with ⟨hns,d,rfl,hd⟩|⟨hns,rfl⟩
   ·obtain⟨gi,ni,hgi,rfl,hbi⟩:=id hd
    clear hgi hbi
    have HNS:=Lib.hid hns
    clear hns
    go_upto_region 12 with fail
    have hpE:¬ p=w2.heap.size:=by have:=bP.lt;omega
    ((obtain⟨E,hE⟩:∃ z,z=w2.heap.size:=⟨_,rfl⟩);(have bE:=Bx.new_at w2 #[.int .i64 (A:Nat),.int .i64 (A:Nat),.slice (some ⟨gi,0,none⟩) ni ni] 37 hE);(have hpE2:¬ p=E:=by rw[hE];exact hpE);(replace hin:=hin.alloc (.cells #[.int .i64 (A:Nat),.int .i64 (A:Nat),.slice (some ⟨gi,0,none⟩) ni ni] 37));(replace bP:=bP.alloc (.cells #[.int .i64 (A:Nat),.int .i64 (A:Nat),.slice (some ⟨gi,0,none⟩) ni ni] 37));(replace m1:=m1.call ((Below.refl _ _).alloc (Nat.le_refl _) (.cells #[.int .i64 (A:Nat),.int .i64 (A:Nat),.slice (some ⟨gi,0,none⟩) ni ni] 37)));(replace m2:=m2.call ((Below.refl _ _).alloc (Nat.le_refl _) (.cells #[.int .i64 (A:Nat),.int .i64 (A:Nat),.slice (some ⟨gi,0,none⟩) ni ni] 37)));(replace m3:=m3.call ((Below.refl _ _).alloc (Nat.le_refl _) (.cells #[.int .i64 (A:Nat),.int .i64 (A:Nat),.slice (some ⟨gi,0,none⟩) ni ni] 37)));(replace hd:=hd.call ((Below.refl _ _).alloc (Nat.le_refl _) (.cells #[.int .i64 (A:Nat),.int .i64 (A:Nat),.slice (some ⟨gi,0,none⟩) ni ni] 37)));(rw[←hE]);clear hE;(generalize w2.alloc (.cells #[.int .i64 (A:Nat),.int .i64 (A:Nat),.slice (some ⟨gi,0,none⟩) ni ni] 37)=w3 at *))
    clear hpE
    (have e0:=bE.c0;have e1:=bE.c1;have e2:=bE.c2;have el:=bE.lt)
    have p0:=bP.c0
    go_upto_region 14 with fail
    clear p0
    have d0:=bP.cell 14
    have f0:=bP.frozen 14
    have d1:=bP.cell 15
    have f1:=bP.frozen 15
    have d2:=bP.cell 16
    have f2:=bP.frozen 16
    have dl:=bP.lt
    simp only[List.getElem?_cons_succ,List.getElem?_cons_zero] at d0 d1 d2
    have KP:=Lib.hid (((bP.set 14 (.int .i64 (A:Nat))).set 15 (.int .i64 (A:Nat))).set 16 (.slice (some ⟨gi,0,none⟩) ni ni))
    have Km1:=Lib.hid (MatS.setTy (j:=16) (x:=(.slice (some ⟨gi,0,none⟩) ni ni)) (MatS.setTy (j:=15) (x:=(.int .i64 (A:Nat))) (MatS.setTy (j:=14) (x:=(.int .i64 (A:Nat))) m1 bP (by decide)) (bP.set 14 (.int .i64 (A:Nat))) (by decide)) ((bP.set 14 (.int .i64 (A:Nat))).set 15 (.int .i64 (A:Nat))) (by decide))
    have Km2:=Lib.hid (MatS.setTy (j:=16) (x:=(.slice (some ⟨gi,0,none⟩) ni ni)) (MatS.setTy (j:=15) (x:=(.int .i64 (A:Nat))) (MatS.setTy (j:=14) (x:=(.int .i64 (A:Nat))) m2 bP (by decide)) (bP.set 14 (.int .i64 (A:Nat))) (by decide)) ((bP.set 14 (.int .i64 (A:Nat))).set 15 (.int .i64 (A:Nat))) (by decide))
    have Km3:=Lib.hid (MatS.setTy (j:=16) (x:=(.slice (some ⟨gi,0,none⟩) ni ni)) (MatS.setTy (j:=15) (x:=(.int .i64 (A:Nat))) (MatS.setTy (j:=14) (x:=(.int .i64 (A:Nat))) m3 bP (by decide)) (bP.set 14 (.int .i64 (A:Nat))) (by decide)) ((bP.set 14 (.int .i64 (A:Nat))).set 15 (.int .i64 (A:Nat))) (by decide))
    have Khd:=Lib.hid (MatS.setTy (j:=16) (x:=(.slice (some ⟨gi,0,none⟩) ni ni)) (MatS.setTy (j:=15) (x:=(.int .i64 (A:Nat))) (MatS.setTy (j:=14) (x:=(.int .i64 (A:Nat))) hd bP (by decide)) (bP.set 14 (.int .i64 (A:Nat))) (by decide)) ((bP.set 14 (.int .i64 (A:Nat))).set 15 (.int .i64 (A:Nat))) (by decide))
    have Khin:=Lib.hid (((hin.setCell (p:=⟨p,14,none⟩) HP.out (.int .i64 (A:Nat))).setCell (p:=⟨p,15,none⟩) HP.out (.int .i64 (A:Nat))).setCell (p:=⟨p,16,none⟩) HP.out (.slice (some ⟨gi,0,none⟩) ni ni))
    have KbE:=Lib.hid (Bx.other (a:=⟨p,16,none⟩) (Bx.other (a:=⟨p,15,none⟩) (Bx.other (a:=⟨p,14,none⟩) bE hpE2 (.int .i64 (A:Nat))) hpE2 (.int .i64 (A:Nat))) hpE2 (.slice (some ⟨gi,0,none⟩) ni ni))
    clear bP m1 m2 m3 hd hin bE
    go_upto_region 15 with fail
    have bP:=KP.out
    simp only[List.set] at bP
    have m1:=Km1.out
    have m2:=Km2.out
    have m3:=Km3.out
    have hd:=Khd.out
    have hin:=Khin.out
    have bE:=KbE.out
    clear KP d0 d1 d2 dl f0 f1 f2 Km1 Km2 Km3 Khd Khin KbE
    generalize ((w3.setCell ⟨p,14,none⟩ (.int .i64 (A:Nat))).setCell ⟨p,15,none⟩ (.int .i64 (A:Nat))).setCell ⟨p,16,none⟩ (.slice (some ⟨gi,0,none⟩) ni ni)=w4 at *
    clear e0 e1 e2 el
    have hgz:=HC2.out HNS.out
    have hlz:=lz_le (a:=A) hz
    have hpz:=pz_le (a:=A) hz
    have hjz:0<jz A z:=Nat.lt_of_lt_of_le hz (le_jz _ _)
    have hNz:=invM_szk hz HAA.out
    change Mz A A (jz A z) _ at hNz
    obtain⟨NN,hNN⟩:∃ NN,NN=invM A (sub M ii ii):=⟨_,rfl⟩
    rw[←hNN] at hd hNz
    have HNN:=Lib.hid hNN
    clear hNN
    have cm1:=fun W (h:In w4.heap.size w4 W)=>mmul_tup (j:=z) (l:=jz A z) W _ _ O' A A (sub M oo ii) NN (m2.call h.bel).mat (hd.call h.bel).mat (by omega) (by omega) (by omega) HOA.out hNz (by omega) hjz (by unfold lz at hlz;omega)
    have d8:World.cell? w4 ⟨p,8,none⟩=some (.int .i64 O'):=bP.cell 8
    have d9:World.cell? w4 ⟨p,9,none⟩=some (.int .i64 A):=bP.cell 9
    have d10:World.cell? w4 ⟨p,10,none⟩=some (.slice (some ⟨g10,0,none⟩) n10 n10):=bP.cell 10
    have dl:=bP.lt
    have e0:=bE.c0;have e1:=bE.c1;have e2:=bE.c2;have el:=bE.lt
    have h:=In.self w4;have hc:=h.cell;have hf:=h.frozen;refine tfw 12 ?_;refine tset ?_;(repeat (first | refine tfs ?_))
    (with_reducible refine flow_rel (Vi:=TupR (MaQ O' A (mulM A (sub M oo ii) NN))) false ?_ ?_ ?_ ?_ ?_ ?_);(focus rfl);(focus rfl);(focus exact stable_maq _ _ _);(focus exact placed_false _);(focus (intro u w1 hw hd;replace hd:=thn hd;have hc':=hw.cell;go_simp;(try simp only[okUpon]);go_at_call 82;((with_reducible refine(cm1 _ hw.ins).mono ?_));rintro e w'' ⟨⟨v,rfl,hv⟩,hb⟩;exact⟨v,rfl,⟨hv,fun h=>by cases h⟩,hb⟩))
    (((with_reducible refine flow_link (k:=7) (R:=MvR) ?_ ?_ ?_ ?_);(focus rfl);(focus rfl);(focus (intro u w1 hw hd;replace hd:=thn hd;obtain⟨⟨n,m,a,l,k,e,h3⟩,_⟩:=hd;exact⟨u 7,fun w2=>(by go_simp),rfl,n,m,a,l,k,e,h3⟩)));((with_reducible refine flow_link (k:=8) (R:=FstR) ?_ ?_ ?_ ?_);(focus rfl);(focus rfl);(focus (intro u w1 hw hd;replace hd:=thn hd;obtain⟨h4,n,m,a,l,k,e,h5⟩:=hd;exact⟨.agg #[.int .i64 n,.int .i64 m,.slice a l k],fun w2=>(by clear h4;go_simp),n,m,a,l,k,e,h5,rfl⟩)));((with_reducible refine flow_link (k:=8) (R:=SndR) ?_ ?_ ?_ ?_);(focus rfl);(focus rfl);(focus (intro u w1 hw hd;replace hd:=thn hd;obtain⟨h4,n,m,a,l,k,e,h5⟩:=hd;exact⟨.int .i64 e,fun w2=>(by clear h4;go_simp),n,m,a,l,k,e,h5,rfl⟩))))
    (repeat (first | refine tfs ?_))
    (try clear hc hf h);intro u w' h ha hdi;replace h:=tsz h.ins;replace ha:=tah ha;have hc:=h.cell;have hf:=h.frozen;clear hdi hc hf;rename World=>wf
    (try simp only[ext,Nat.reduceEqDiff,reduceIte] at ha)
    obtain⟨⟨⟨⟨⟨hA9,htup⟩,hmv⟩,hfst⟩,hsnd⟩,F,hu,hF,bF⟩:=ha
    obtain⟨n1,m1',a9,l9,k9,e9,hx1,hx2,h13,h14,he9,hms⟩:=tup_out htup hmv hfst hsnd
    subst he9
    obtain⟨ad,kd,hagg⟩:=hms.shape
    obtain⟨nd,hnd⟩:∃ nd,nd=(dense O' A (mulM A (sub M oo ii) NN)).length:=⟨_,rfl⟩
    rw[hagg,←hnd] at hms h13
    (try dsimp only)
    simp only[hA9,h13,h14,hu]
    clear hA9 h13 h14 hu htup hmv hfst hsnd hx1 hx2 hagg hnd cm1
    have KM:=Lib.hid (hms.put3 (p':=(O':Nat)) (q':=(A:Nat)) (ao':=ad) (n':=nd) (k':=kd) bF)
    have hpF:¬ p=F:=by have:=bP.lt;omega
    clear hms
    (have p0:=bF.c0;have p1:=bF.c1;have p2:=bF.c2;(have pf0:=bF.frozen 0);(have pf1:=bF.frozen 1);(have pf2:=bF.frozen 2);have pl:=bF.lt;(have KS:=Lib.hid (((bF.set 0 (.int .i64 (O':Nat))).set 1 (.int .i64 (A:Nat))).set 2 (.slice ad nd kd)));(have KH:=Lib.hid (((h.setCell (p:=⟨F,0,none⟩) (by first | exact hF |(simp;omega)) (.int .i64 (O':Nat))).setCell (p:=⟨F,1,none⟩) (by first | exact hF |(simp;omega)) (.int .i64 (A:Nat))).setCell (p:=⟨F,2,none⟩) (by first | exact hF |(simp;omega)) (.slice ad nd kd)));clear h bF;(go_upto_region 16 with fail);have hb:=KH.out.bel;have bF:=KS.out;simp only[List.set] at bF;clear d8 d9 d10 dl e0 e1 e2 el;replace hin:=hin.call hb;replace m1:=m1.call hb;replace m2:=m2.call hb;replace m3:=m3.call hb;replace hd:=hd.call hb;replace bP:=bP.call hb;clear KS KH hb pl p0 p1 p2 pf0 pf1 pf2;(generalize ((wf.setCell ⟨F,0,none⟩ (.int .i64 (O':Nat))).setCell ⟨F,1,none⟩ (.int .i64 (A:Nat))).setCell ⟨F,2,none⟩ (.slice ad nd kd)=w5 at *))
    have hms:=KM.out
    clear KM
    have cm2:=fun W (h:In w5.heap.size w5 W)=>mmul_tup (j:=lz A z) (l:=z) W _ _ O' A O' (mulM A (sub M oo ii) NN) (sub M ii oo) (hms.call h.bel) (m1.call h.bel).mat (by omega) (by omega) (by omega) (by have:=mulM_szk hz HOA.out hNz;unfold lz;exact this) HAO.out (by unfold lz;omega) (by omega) (by unfold pz at hpz;omega)
    have d5:World.cell? w5 ⟨p,5,none⟩=some (.int .i64 A):=bP.cell 5
    have d6:World.cell? w5 ⟨p,6,none⟩=some (.int .i64 O'):=bP.cell 6
    have d7:World.cell? w5 ⟨p,7,none⟩=some (.slice (some ⟨g01,0,none⟩) n01 n01):=bP.cell 7
    have dl:=bP.lt
    have e0:=bF.c0;have e1:=bF.c1;have e2:=bF.c2;have el:=bF.lt
    have h:=In.self w5;have hc:=h.cell;have hf:=h.frozen;refine tfw 14 ?_;refine tset ?_;(repeat (first | refine tfs ?_))
    (with_reducible refine flow_rel (Vi:=TupR (MaQ O' O' (mulM A (mulM A (sub M oo ii) NN) (sub M ii oo)))) false ?_ ?_ ?_ ?_ ?_ ?_);(focus rfl);(focus rfl);(focus exact stable_maq _ _ _);(focus exact placed_false _);(focus (intro u w1 hw hd;replace hd:=thn hd;have hc':=hw.cell;go_simp;(try simp only[okUpon]);go_at_call 82;((with_reducible refine(cm2 _ hw.ins).mono ?_));rintro e w'' ⟨⟨v,rfl,hv⟩,hb⟩;exact⟨v,rfl,⟨hv,fun h=>by cases h⟩,hb⟩))
    (((with_reducible refine flow_link (k:=8) (R:=MvR) ?_ ?_ ?_ ?_);(focus rfl);(focus rfl);(focus (intro u w1 hw hd;replace hd:=thn hd;obtain⟨⟨n,m,a,l,k,e,h3⟩,_⟩:=hd;exact⟨u 8,fun w2=>(by go_simp),rfl,n,m,a,l,k,e,h3⟩)));((with_reducible refine flow_link (k:=9) (R:=FstR) ?_ ?_ ?_ ?_);(focus rfl);(focus rfl);(focus (intro u w1 hw hd;replace hd:=thn hd;obtain⟨h4,n,m,a,l,k,e,h5⟩:=hd;exact⟨.agg #[.int .i64 n,.int .i64 m,.slice a l k],fun w2=>(by clear h4;go_simp),n,m,a,l,k,e,h5,rfl⟩)));((with_reducible refine flow_link (k:=9) (R:=SndR) ?_ ?_ ?_ ?_);(focus rfl);(focus rfl);(focus (intro u w1 hw hd;replace hd:=thn hd;obtain⟨h4,n,m,a,l,k,e,h5⟩:=hd;exact⟨.int .i64 e,fun w2=>(by clear h4;go_simp),n,m,a,l,k,e,h5,rfl⟩))))
    (repeat (first | refine tfs ?_))
    (try clear hc hf h);intro u w' h ha hdi;replace h:=tsz h.ins;replace ha:=tah ha;have hc:=h.cell;have hf:=h.frozen
    (try simp only[ext,Nat.reduceEqDiff,reduceIte] at ha)
    obtain⟨⟨⟨⟨⟨⟨hA9,h8⟩,h9⟩,h10⟩,h11⟩,h12⟩,h13⟩:=ha
    obtain⟨n1,m1',a9,l9,k9,e9,hx1,hx2,hx3,hx4,he9,hmq⟩:=tup_out h8 h9 h10 h11
    obtain⟨aq,kq,hagg⟩:=hmq.shape
    obtain⟨nq,hnq⟩:∃ nq,nq=(dense O' O' (mulM A (mulM A (sub M oo ii) NN) (sub M ii oo))).length:=⟨_,rfl⟩
    rw[hagg,←hnq] at hmq hx3
    (try dsimp only)
    simp only[hA9,hx3,hx4,h12,h13]
    clear hA9 h8 h9 h10 h11 h12 h13 hx1 hx2 hx3 hx4 he9 hdi hagg hnq cm2
    replace bP:=bP.call h.bel
    replace hin:=hin.call h.bel
    replace m1:=m1.call h.bel
    replace m2:=m2.call h.bel
    replace m3:=m3.call h.bel
    replace hd:=hd.call h.bel
    clear h hc hf hms bF d5 d6 d7 dl e0 e1 e2 el
    have d17:=bP.cell 17
    have d18:=bP.cell 18
    have d19:=bP.cell 19
    have f17:=bP.frozen 17
    have f18:=bP.frozen 18
    have f19:=bP.frozen 19
    have dl:=bP.lt
    simp only[List.getElem?_cons_succ,List.getElem?_cons_zero] at d17 d18 d19
    have KP:=Lib.hid (((bP.set 17 (.int .i64 (O':Nat))).set 18 (.int .i64 (O':Nat))).set 19 (.slice aq nq kq))
    have Km1:=Lib.hid (MatS.setTy (j:=19) (x:=(.slice aq nq kq)) (MatS.setTy (j:=18) (x:=(.int .i64 (O':Nat))) (MatS.setTy (j:=17) (x:=(.int .i64 (O':Nat))) m1 bP (by decide)) (bP.set 17 (.int .i64 (O':Nat))) (by decide)) ((bP.set 17 (.int .i64 (O':Nat))).set 18 (.int .i64 (O':Nat))) (by decide))
    have Km2:=Lib.hid (MatS.setTy (j:=19) (x:=(.slice aq nq kq)) (MatS.setTy (j:=18) (x:=(.int .i64 (O':Nat))) (MatS.setTy (j:=17) (x:=(.int .i64 (O':Nat))) m2 bP (by decide)) (bP.set 17 (.int .i64 (O':Nat))) (by decide)) ((bP.set 17 (.int .i64 (O':Nat))).set 18 (.int .i64 (O':Nat))) (by decide))
    have Km3:=Lib.hid (MatS.setTy (j:=19) (x:=(.slice aq nq kq)) (MatS.setTy (j:=18) (x:=(.int .i64 (O':Nat))) (MatS.setTy (j:=17) (x:=(.int .i64 (O':Nat))) m3 bP (by decide)) (bP.set 17 (.int .i64 (O':Nat))) (by decide)) ((bP.set 17 (.int .i64 (O':Nat))).set 18 (.int .i64 (O':Nat))) (by decide))
    have Khd:=Lib.hid (MatS.setTy (j:=19) (x:=(.slice aq nq kq)) (MatS.setTy (j:=18) (x:=(.int .i64 (O':Nat))) (MatS.setTy (j:=17) (x:=(.int .i64 (O':Nat))) hd bP (by decide)) (bP.set 17 (.int .i64 (O':Nat))) (by decide)) ((bP.set 17 (.int .i64 (O':Nat))).set 18 (.int .i64 (O':Nat))) (by decide))
    have Kmq:=Lib.hid (MatAt.setTy (j:=19) (x:=(.slice aq nq kq)) (MatAt.setTy (j:=18) (x:=(.int .i64 (O':Nat))) (MatAt.setTy (j:=17) (x:=(.int .i64 (O':Nat))) hmq bP (by decide)) (bP.set 17 (.int .i64 (O':Nat))) (by decide)) ((bP.set 17 (.int .i64 (O':Nat))).set 18 (.int .i64 (O':Nat))) (by decide))
    have Khin:=Lib.hid (((hin.setCell (p:=⟨p,17,none⟩) HP.out (.int .i64 (O':Nat))).setCell (p:=⟨p,18,none⟩) HP.out (.int .i64 (O':Nat))).setCell (p:=⟨p,19,none⟩) HP.out (.slice aq nq kq))
    clear bP m1 m2 m3 hd hmq hin
    go_wp2_with fail
    generalize ((w'.setCell ⟨p,17,none⟩ (.int .i64 (O':Nat))).setCell ⟨p,18,none⟩ (.int .i64 (O':Nat))).setCell ⟨p,19,none⟩ (.slice aq nq kq)=w9 at *
    have hin:=Khin.out
    have bP:=KP.out
    simp only[List.set] at bP
    have hsp:SplitAt w9 (.pointer (some ⟨p,0,none⟩)) ii oo M (invM ii.length (sub M ii ii)):=by
     have e1:=HA.out
     have e2:=HO.out
     have e3:=HNN.out
     subst e3
     subst e1
     subst e2
     exact⟨p,a0,c0,a1,c1,g00,n00,g01,n01,g10,n10,g11,n11,gi,ni,aq,nq,kq,rfl,⟨bP⟩,(HG1.out.call hin.bel).ints,(HD.out.call hin.bel).ints,Km1.out,Km2.out,Km3.out,Khd.out,Kmq.out⟩
    have hns2:NS ii.length (sub M ii ii):=by rw[←HA.out];exact HNS.out
    exact bodyPost_ret (v:=.tuple #[.pointer (some ⟨p,0,none⟩),.int .i64 0]) (by simp[results,Tryz.results49,go_sem]) rfl ⟨.inl ⟨hns2,_,rfl,hsp⟩,HIN.out.bel.trans (hin.bel.mono HIN.out.siz)⟩
   ·have HNS:Hid (¬ NS ii.length (sub M ii ii)):=Lib.hid (by rw[←HA.out];exact hns)
    have hbel:=HIN.out.bel.trans (hin.bel.mono HIN.out.siz)
    have HBE:=Lib.hid hbel
    clear hns bP m1 m2 m3 hbel
    go_upto_region 12 with fail
    have hb2:Below w.heap.size w (w2.alloc (.cells #[.int .i64 0,.int .i64 0,.slice none 0 0] 37)):=HBE.out.trans (((Below.refl _ _).alloc (Nat.le_refl _) _).mono (Nat.le_trans HIN.out.siz hin.siz))
    have HB2:=Lib.hid hb2
    clear hb2 hin
    go_wp2_with fail
    exact bodyPost_ret (v:=.tuple #[.pointer none,.int .i64 6]) (by simp[results,Tryz.results49,go_sem]) rfl ⟨.inr ⟨HNS.out,rfl⟩,HB2.out⟩
end Gus
end
