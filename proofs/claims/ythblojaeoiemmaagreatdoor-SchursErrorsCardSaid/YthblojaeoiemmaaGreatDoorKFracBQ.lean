/- Proved here: parts of the proof: KFracB KFracC KFracD. Conditions: those that each theorem states. -/
import Derived.Test.YthblojaeoiemmaaGreatDoorKFlowQ
import Derived.Test.YthblojaeoiemmaaGreatDoorKIntBQ
section
namespace Gus
open Go Go.RowKit Go.Proofs
abbrev natO (n:Nat):Obj:=.cells #[.int .u64 (lo n),.string (bg n)] 66
theorem In.of (w:World) {n:Nat} (hn:n=w.heap.size):In n w w:=by subst hn;exact .self w
theorem mk_parts (z:Int) (d:Nat) (hd:d≠0):fracV (mkRat z d)=.agg #[.int .u64 (lo (z.natAbs / Nat.gcd z.natAbs d)),.string (bg (z.natAbs / Nat.gcd z.natAbs d)),.bool (decide (z<0)),.int .u64 (lo (d / Nat.gcd z.natAbs d - 1)),.string (bg (d / Nat.gcd z.natAbs d - 1))]:=by
 rw[fracV,mk_natAbs z d hd,mk_den z d hd]
 have:=mk_neg z d hd
 rw[show decide ((mkRat z d).num<0)=decide (z<0) by rw[decide_eq_decide];exact this]
theorem isign_neg (z:Int):isign z<0↔z<0:=by
 unfold isign;split
 ·simp[*]
 ·split <;> simp <;> omega
theorem gcd_div_zero (z:Int) (d:Nat):(decide (z<0) && !decide (z.natAbs / Nat.gcd z.natAbs d=0))=decide (z<0):=by
 by_cases h:z<0
 ·have hz:z.natAbs≠0:=by omega
  have hg:0<Nat.gcd z.natAbs d:=Nat.gcd_pos_of_pos_left _ (by omega)
  have:z.natAbs / Nat.gcd z.natAbs d≠0:=by
   have:=Nat.div_pos (Nat.le_of_dvd (by omega) (Nat.gcd_dvd_left z.natAbs d)) hg
   omega
  simp[h,this]
 ·simp[h]
set_option maxRecDepth 100000 in
set_option maxHeartbeats 2000000 in
theorem lowest_any (z:Int) (d:Nat) (hd0:d≠0) (hz:Wl z.natAbs) (hd:Wl d) (w:World) :
  Calls Tryz.prog 92 #[intV z,natV d] w fun e w'=>e=.returned (fracV (mkRat z d))∧Below w.heap.size w w':=by
 have hgp:¬ Nat.gcd z.natAbs d=0:=fun h=>hd0 (Nat.eq_zero_of_gcd_eq_zero_right h)
 have hgl:Nat.gcd z.natAbs d≤d:=Nat.le_of_dvd (by omega) (Nat.gcd_dvd_right _ _)
 have hq1:1≤d / Nat.gcd z.natAbs d:=Nat.div_pos hgl (by omega)
 have hA:=abs_any z
 have hG:=gcd_any z.natAbs d hz hd
 have hD1:=div_any z.natAbs (Nat.gcd z.natAbs d) hgp hz (hd.mono hgl)
 have hD2:=div_any d (Nat.gcd z.natAbs d) hgp hd (hd.mono hgl)
 have hO:=natOf_any 1 (by decide) (by decide)
 rw[show(1:Int).toNat=1 from rfl] at hO
 have hS:=sub_ge (d / Nat.gcd z.natAbs d) 1 hq1 (hd.mono (Nat.div_le_self _ _)) Wl_one
 have hI:=isign_any z
 have hs1:decide (isign z<0)=decide (z<0):=by rw[decide_eq_decide];exact isign_neg z
 have hF:=from_any (decide (z<0)) (z.natAbs / Nat.gcd z.natAbs d)
 rw[intV_sgn,gcd_div_zero z d] at hF
 rw[mk_parts z d hd0]
 obtain⟨g,hg⟩:∃ g,g=Nat.gcd z.natAbs d:=⟨_,rfl⟩
 rw[←hg] at hG hD1 hD2 hS hF ⊢
 obtain⟨p,hp⟩:∃ p,p=z.natAbs / g:=⟨_,rfl⟩
 obtain⟨q,hq⟩:∃ q,q=d / g:=⟨_,rfl⟩
 obtain⟨r,hr⟩:∃ r,r=z.natAbs % g:=⟨_,rfl⟩
 obtain⟨r2,hr2⟩:∃ r,r=d % g:=⟨_,rfl⟩
 rw[←hp,←hr] at hD1
 rw[←hp] at hF ⊢
 rw[←hq,←hr2] at hD2
 rw[←hq] at hS ⊢
 obtain⟨q1,hq1'⟩:∃ q1,q1=q - 1:=⟨_,rfl⟩
 rw[←hq1'] at hS ⊢
 obtain⟨s,hs⟩:∃ s,s=decide (z<0):=⟨_,rfl⟩
 rw[intV] at hA hI ⊢
 rw[←hs] at hs1 hF hA hI ⊢
 clear hgp hgl hq1 hg hp hq hr hr2 hq1' hz hd hd0
 obtain⟨N,hN⟩:∃ N,N=w.heap.size:=⟨_,rfl⟩
 obtain⟨W0,hW0⟩:∃ W0,W0=((w.alloc (.cells #[.int .u64 (lo z.natAbs),.string (bg z.natAbs),.bool s] 70)).alloc (natO d)).alloc (.cells #[.int .u64 0,.string ⟨#[]⟩,.bool false,.int .u64 0,.string ⟨#[]⟩] 72):=⟨_,rfl⟩
 have bz:Bx W0 N 70 [.int .u64 (lo z.natAbs),.string (bg z.natAbs),.bool s]:=by rw[hW0];exact((Bx.new_at w _ _ hN).alloc _).alloc _
 have bd:natB W0 (N+1) d:=by rw[hW0];exact(Bx.new_at _ _ _ (by rw[World.size_alloc,hN])).alloc _
 have bf:Bx W0 (N+1+1) 72 [.int .u64 0,.string ⟨#[]⟩,.bool false,.int .u64 0,.string ⟨#[]⟩]:=by rw[hW0];exact Bx.new_at _ _ _ (by rw[World.size_alloc,World.size_alloc,hN])
 have hin:In N w W0:=by rw[hW0,hN];exact(((In.self w).alloc _).alloc _).alloc _
 have HW:=Lib.hid hW0
 have HN:=Lib.hid hN
 clear hW0 hN hs
 go_enter Tryz.func92,Tryz.ntmps92
 go_upto_region 1 with fail
 rw[←HN.out,←HW.out]
 have z0:=bz.c0
 have z1:=bz.c1
 have z2:=bz.c2
 have d0:=bd.c0
 have d1:=bd.c1
 have hl0:=bz.lt
 have hl1:=bd.lt
 refine tfw 5 ?_;refine tset ?_;(repeat (first | refine tfs ?_ |((first |((with_reducible refine flow_pure0 (v:=?_) ?_ ?_ ?_ ?_);rotate_left 1;exact trr;exact trf)|((with_reducible refine flow_pureg (v:=?_) (j:=?_) (b:=?_) ?_ ?_ ?_ ?_);rotate_left 3;exact trr;(focus (intro u w1 hw hd;replace hd:=thn hd;simp[yielded,hd];done))));(focus (intro u w1 hw hd;replace hd:=thn hd;have hc':=hw.cell;go_simp;first |(go_at_call 135;((with_reducible refine(hA _).mono ?_));rintro e w'' ⟨rfl,hb⟩;refine⟨?_,hb⟩;exact rfl)|(go_at_call 134;((with_reducible refine(hG _).mono ?_));rintro e w'' ⟨rfl,hb⟩;refine⟨?_,hb⟩;exact rfl))))| fail))
 (try clear hc hf h);intro u w' h ha hdi;replace h:=tsz h.ins;replace ha:=tah ha;have hc:=h.cell;have hf:=h.frozen
 (try obtain⟨ha,G,hu,hGN,bg1⟩:=ha);(try dsimp only);simp only[ha,hu];clear ha hdi hu
 have cz:=bz.below h.bel hl0
 have cd:=bd.below h.bel hl1
 have cf:=bf.below h.bel bf.lt
 have hGf:N+1+1<G:=Nat.lt_of_lt_of_le bf.lt hGN
 replace hin:=hin.call h.bel
 have g0:=bg1.c0
 have g1:=bg1.c1
 have gf0:=bg1.frozen 0
 have gf1:=bg1.frozen 1
 clear z0 z1 z2 d0 d1 hl0 hl1 bz bd bf hc hf h HW hGN
 go_upto_region 2 with fail
 have bz:=(cz.other (a:=⟨G,0,none⟩) (by simp;omega) (.int .u64 (lo g))).other (a:=⟨G,1,none⟩) (by simp;omega) (.string (bg g))
 have bd:=(Bx.other cd (a:=⟨G,0,none⟩) (by simp;omega) (.int .u64 (lo g))).other (a:=⟨G,1,none⟩) (by simp;omega) (.string (bg g))
 have bf:=(cf.other (a:=⟨G,0,none⟩) (by simp;omega) (.int .u64 (lo g))).other (a:=⟨G,1,none⟩) (by simp;omega) (.string (bg g))
 have bgg:natB _ G g:=(Bx.set bg1 0 (.int .u64 (lo g))).set 1 (.string (bg g))
 replace hin:=(hin.setCell (p:=⟨G,0,none⟩) (by simp;omega) (.int .u64 (lo g))).setCell (p:=⟨G,1,none⟩) (by simp;omega) (.string (bg g))
 clear cz cd cf bg1 g0 g1 gf0 gf1
 generalize (w'.setCell ⟨G,0,none⟩ (.int .u64 (lo g))).setCell ⟨G,1,none⟩ (.string (bg g))=W1 at *
 have z0:=bz.c0
 have z1:=bz.c1
 have z2:=bz.c2
 have g0:=bgg.c0
 have g1:=bgg.c1
 have hl0:=bz.lt
 have hl1:=bgg.lt
 refine tfw 10 ?_;refine tset ?_;(repeat (first | refine tfs ?_ |((first |((with_reducible refine flow_pure0 (v:=?_) ?_ ?_ ?_ ?_);rotate_left 1;exact trr;exact trf)|((with_reducible refine flow_pureg (v:=?_) (j:=?_) (b:=?_) ?_ ?_ ?_ ?_);rotate_left 3;exact trr;(focus (intro u w1 hw hd;replace hd:=thn hd;simp[yielded,hd];done))));(focus (intro u w1 hw hd;replace hd:=thn hd;have hc':=hw.cell;go_simp;first |(go_at_call 135;((with_reducible refine(hA _).mono ?_));rintro e w'' ⟨rfl,hb⟩;refine⟨?_,hb⟩;exact rfl)|(go_at_call 136;((with_reducible refine(hD1 _).mono ?_));rintro e w'' ⟨rfl,hb⟩;refine⟨?_,hb⟩;exact rfl))))| fail))
 (try clear hc hf h);intro u w' h ha hdi;replace h:=tsz h.ins;replace ha:=tah ha;have hc:=h.cell;have hf:=h.frozen
 obtain⟨⟨ha,P,hu,hPW,bp1⟩,P2,hu2,hPW2,bp2⟩:=ha
 have hPP':=hdi 9 8 (by decide) (by decide) (by decide) rfl rfl _ (by rw[hu2];rfl);rw[hu] at hPP';have hPP:¬ P=P2:=fun h=>hPP' (congrArg some h);have hPP_:¬ P2=P:=fun h=>hPP h.symm;clear hPP'
 (try obtain ha:=ha);(try dsimp only);simp only[ha,hu,hu2];clear ha hdi hu hu2
 have cz:=bz.below h.bel hl0
 have cd:=bd.below h.bel bd.lt
 have cf:=bf.below h.bel bf.lt
 have cg:=bgg.below h.bel bgg.lt
 have hPG:G<P:=Nat.lt_of_lt_of_le bgg.lt hPW
 have hPG2:G<P2:=Nat.lt_of_lt_of_le bgg.lt hPW2
 replace hin:=hin.call h.bel
 have g0:=bp1.c0
 have g1:=bp1.c1
 have gf0:=bp1.frozen 0
 have gf1:=bp1.frozen 1
 have i0:=bp2.c0
 have i1:=bp2.c1
 have if0:=bp2.frozen 0
 have if1:=bp2.frozen 1
 clear z0 z1 z2 hl0 hl1 bz bd bf bgg hc hf h hPW hPW2
 go_upto_region 3 with fail
 have bz:=(((cz.other (a:=⟨P,0,none⟩) (by simp;omega) (.int .u64 (lo p))).other (a:=⟨P,1,none⟩) (by simp;omega) (.string (bg p))).other (a:=⟨P2,0,none⟩) (by simp;omega) (.int .u64 (lo r))).other (a:=⟨P2,1,none⟩) (by simp;omega) (.string (bg r))
 have bd:=(((Bx.other cd (a:=⟨P,0,none⟩) (by simp;omega) (.int .u64 (lo p))).other (a:=⟨P,1,none⟩) (by simp;omega) (.string (bg p))).other (a:=⟨P2,0,none⟩) (by simp;omega) (.int .u64 (lo r))).other (a:=⟨P2,1,none⟩) (by simp;omega) (.string (bg r))
 have bf:=(((cf.other (a:=⟨P,0,none⟩) (by simp;omega) (.int .u64 (lo p))).other (a:=⟨P,1,none⟩) (by simp;omega) (.string (bg p))).other (a:=⟨P2,0,none⟩) (by simp;omega) (.int .u64 (lo r))).other (a:=⟨P2,1,none⟩) (by simp;omega) (.string (bg r))
 have bgg:=(((Bx.other cg (a:=⟨P,0,none⟩) (by simp;omega) (.int .u64 (lo p))).other (a:=⟨P,1,none⟩) (by simp;omega) (.string (bg p))).other (a:=⟨P2,0,none⟩) (by simp;omega) (.int .u64 (lo r))).other (a:=⟨P2,1,none⟩) (by simp;omega) (.string (bg r))
 have bp:natB _ P p:=(((Bx.set bp1 0 (.int .u64 (lo p))).set 1 (.string (bg p))).other (a:=⟨P2,0,none⟩) hPP_ (.int .u64 (lo r))).other (a:=⟨P2,1,none⟩) hPP_ (.string (bg r))
 replace hin:=(((hin.setCell (p:=⟨P,0,none⟩) (by simp;omega) (.int .u64 (lo p))).setCell (p:=⟨P,1,none⟩) (by simp;omega) (.string (bg p))).setCell (p:=⟨P2,0,none⟩) (by simp;omega) (.int .u64 (lo r))).setCell (p:=⟨P2,1,none⟩) (by simp;omega) (.string (bg r))
 clear cz cd cf cg bp1 bp2 g0 g1 gf0 gf1 i0 i1 if0 if1
 generalize (((w'.setCell ⟨P,0,none⟩ (.int .u64 (lo p))).setCell ⟨P,1,none⟩ (.string (bg p))).setCell ⟨P2,0,none⟩ (.int .u64 (lo r))).setCell ⟨P2,1,none⟩ (.string (bg r))=W2 at *
 have d0:=bd.c0
 have d1:=bd.c1
 have g0:=bgg.c0
 have g1:=bgg.c1
 go_wp2_with fail
 refine(hD2 _).mono ?_
 rintro e w' ⟨rfl,hb⟩
 have cz:=bz.call hb
 have cf:=bf.call hb
 have cp:=bp.call hb
 replace hin:=hin.call hb
 clear d0 d1 g0 g1 bz bd bf bgg bp hb
 go_upto_region 4 with fail
 obtain⟨Q,hQ⟩:∃ Q,Q=w'.heap.size:=⟨_,rfl⟩
 have hQP:P<Q:=by rw[hQ];exact cp.lt
 have hQN:N+1+1<Q:=by rw[hQ];exact cf.lt
 have bz:=(cz.alloc (natO q)).alloc (natO r2)
 have bf:=(cf.alloc (natO q)).alloc (natO r2)
 have bp:=(Bx.alloc cp (natO q)).alloc (natO r2)
 have bq:natB ((w'.alloc (natO q)).alloc (natO r2)) Q q:=Bx.alloc (Bx.new_at _ _ _ hQ) _
 replace hin:=(hin.alloc (natO q)).alloc (natO r2)
 rw[←hQ]
 clear cz cf cp hQ
 generalize (w'.alloc (natO q)).alloc (natO r2)=W3 at *
 have q0:=bq.c0
 have q1':=bq.c1
 have hl0:=bq.lt
 refine tfw 6 ?_;refine tset ?_;(repeat (first | refine tfs ?_ |((first |((with_reducible refine flow_pure0 (v:=?_) ?_ ?_ ?_ ?_);rotate_left 1;exact trr;exact trf)|((with_reducible refine flow_pureg (v:=?_) (j:=?_) (b:=?_) ?_ ?_ ?_ ?_);rotate_left 3;exact trr;(focus (intro u w1 hw hd;replace hd:=thn hd;simp[yielded,hd];done))));(focus (intro u w1 hw hd;replace hd:=thn hd;have hc':=hw.cell;go_simp;first |(go_at_call 138;((with_reducible refine(hO _).mono ?_));rintro e w'' ⟨rfl,hb⟩;refine⟨?_,hb⟩;exact rfl)|(go_at_call 137;((with_reducible refine(hS _).mono ?_));rintro e w'' ⟨rfl,hb⟩;refine⟨?_,hb⟩;exact rfl))))| fail))
 (try clear hc hf h);intro u w' h ha hdi;replace h:=tsz h.ins;replace ha:=tah ha;have hc:=h.cell;have hf:=h.frozen
 (try obtain ha:=ha);(try dsimp only);simp only[ha];clear ha hdi
 have cz:=bz.below h.bel bz.lt
 have cf:=bf.below h.bel bf.lt
 have cp:=bp.below h.bel bp.lt
 have cq:=bq.below h.bel bq.lt
 have q0':=cq.c0
 have q1'':=cq.c1
 have qf0:=cq.frozen 0
 have qf1:=cq.frozen 1
 replace hin:=hin.call h.bel
 clear q0 q1' hl0 bz bf bp bq hc hf h
 go_upto_region 5 with fail
 have bz:=(cz.other (a:=⟨Q,0,none⟩) (by simp;omega) (.int .u64 (lo q1))).other (a:=⟨Q,1,none⟩) (by simp;omega) (.string (bg q1))
 have bf:=(cf.other (a:=⟨Q,0,none⟩) (by simp;omega) (.int .u64 (lo q1))).other (a:=⟨Q,1,none⟩) (by simp;omega) (.string (bg q1))
 have bp:=(Bx.other cp (a:=⟨Q,0,none⟩) (by simp;omega) (.int .u64 (lo q1))).other (a:=⟨Q,1,none⟩) (by simp;omega) (.string (bg q1))
 have bq:natB _ Q q1:=(Bx.set cq 0 (.int .u64 (lo q1))).set 1 (.string (bg q1))
 replace hin:=(hin.setCell (p:=⟨Q,0,none⟩) (by simp;omega) (.int .u64 (lo q1))).setCell (p:=⟨Q,1,none⟩) (by simp;omega) (.string (bg q1))
 clear cz cf cp cq q0' q1'' qf0 qf1
 generalize (w'.setCell ⟨Q,0,none⟩ (.int .u64 (lo q1))).setCell ⟨Q,1,none⟩ (.string (bg q1))=W4 at *
 have z0:=bz.c0
 have z1:=bz.c1
 have z2:=bz.c2
 have p0:=bp.c0
 have p1:=bp.c1
 have q0:=bq.c0
 have q1':=bq.c1
 have hl0:=bz.lt
 have hl1:=bp.lt
 have hl2:=bq.lt
 refine tfw 7 ?_;refine tset ?_;(repeat (first | refine tfs ?_ |((first |((with_reducible refine flow_pure0 (v:=?_) ?_ ?_ ?_ ?_);rotate_left 1;exact trr;exact trf)|((with_reducible refine flow_pureg (v:=?_) (j:=?_) (b:=?_) ?_ ?_ ?_ ?_);rotate_left 3;exact trr;(focus (intro u w1 hw hd;replace hd:=thn hd;simp[yielded,hd];done))));(focus (intro u w1 hw hd;replace hd:=thn hd;have hc':=hw.cell;go_simp;first |(go_at_call 76;((with_reducible refine(hI _).mono ?_));rintro e w'' ⟨rfl,hb⟩;refine⟨?_,hb⟩;exact rfl)|(go_at_call 139;((with_reducible refine(hF _).mono ?_));rintro e w'' ⟨rfl,hb⟩;refine⟨?_,hb⟩;exact rfl))))| fail))
 (try clear hc hf h);intro u w' h ha hdi;replace h:=tsz h.ins;replace ha:=tah ha;have hc:=h.cell;have hf:=h.frozen
 (try obtain ha:=ha);(try dsimp only);simp only[ha];clear ha hdi
 have cf:=bf.below h.bel bf.lt
 have f0:=cf.c0
 have f1:=cf.c1
 have f2:=cf.c2
 have f3:=cf.c3
 have f4:=cf.c4
 have g0:=cf.frozen 0
 have g1:=cf.frozen 1
 have g2:=cf.frozen 2
 have g3:=cf.frozen 3
 have g4:=cf.frozen 4
 replace hin:=hin.call h.bel
 clear z0 z1 z2 p0 p1 q0 q1' hl0 hl1 hl2 bz bf bp bq hc hf h cf
 go_wp2_with fail
 exact bodyPost_ret (v:=.agg #[.int .u64 (lo p),.string (bg p),.bool s,.int .u64 (lo q1),.string (bg q1)]) (by simp[results,Tryz.results92,go_sem,f0,f1,f2,f3,f4]) rfl
  ⟨rfl,by rw[←HN.out];exact(((((hin.setCell (by simp;omega) _).setCell (by simp;omega) _).setCell (by simp;omega) _).setCell (by simp;omega) _).setCell (by simp;omega) _).bel⟩
end Gus
end
section
namespace Gus
open Go Go.RowKit Go.Proofs
theorem natEq_runB {m n:Nat} {p:Bool} (h:decide (m=n)=p) (w:World):(binOp .eql 66 (natV m) (natV n)).run Tryz.prog w=.ok (.bool p) w:=by
 subst h;exact natEq_run m n w
theorem add_whole {a b:Rat} (ha:a.den=1) (hb:b.den=1):((a.num+b.num:Int):Rat)=a+b:=by
 rw[Rat.add_def',ha,hb]
 simp[Rat.mkRat_one]
theorem add_same {a b:Rat} (h:a.den=b.den):mkRat (a.num+b.num) a.den=a+b:=by
 rw[Rat.add_def',←h,←Int.add_mul,Rat.mkRat_mul_right a.den_nz]
theorem mul_whole {a b:Rat} (ha:a.den=1) (hb:b.den=1):((a.num*b.num:Int):Rat)=a*b:=by
 rw[Rat.mul_def',ha,hb]
 simp[Rat.mkRat_one]
set_option maxRecDepth 100000 in
set_option maxHeartbeats 1000000 in
theorem fadd_whole (a b:Rat) (ha:a.den=1) (hb:b.den=1) (hna:Wl a.num.natAbs) (hnb:Wl b.num.natAbs) (w:World) :
  Calls Tryz.prog 74 #[fracV a,fracV b] w fun e w'=>e=.returned (fracV (a+b))∧Below w.heap.size w w':=by
 have h1:=isWhole_any a
 have h2:=isWhole_any b
 rw[decide_eq_true ha] at h1
 rw[decide_eq_true hb] at h2
 have h3:=iadd_any a.num b.num hna hnb
 have h4:=whole_any (a.num+b.num)
 rw[add_whole ha hb] at h4
 clear ha hb hna hnb
 go_enter Tryz.func74,Tryz.ntmps74
 go_wp2_with fail
 (refine(h1 _).mono ?_;rintro e w' ⟨rfl,hb⟩;have h:=tsz ((In.self _).call hb);clear hb;have hc:=h.cell;have hf:=h.frozen)
 go_wp2_with fail
 (refine(h2 _).mono ?_;rintro e w' ⟨rfl,hb⟩;replace h:=In.call tin hb;clear hb hc hf;have hc:=h.cell;have hf:=h.frozen)
 go_wp2_with fail
 (refine(h3 _).mono ?_;rintro e w' ⟨rfl,hb⟩;replace h:=In.call tin hb;clear hb hc hf;have hc:=h.cell;have hf:=h.frozen)
 go_wp2_with fail
 (refine(h4 _).mono ?_;rintro e w' ⟨rfl,hb⟩;replace h:=In.call tin hb;clear hb hc hf;have hc:=h.cell;have hf:=h.frozen)
 go_wp2_with fail
 exact bodyPost_ret (v:=fracV (a+b)) (by simp[results,Tryz.results74,go_sem, *]) rfl ⟨rfl,by exact tfin⟩
set_option maxRecDepth 100000 in
set_option maxHeartbeats 1000000 in
theorem fadd_same (a b:Rat) (ha:¬ a.den=1) (hab:a.den=b.den) (hna:Wl a.num.natAbs) (hnb:Wl b.num.natAbs) (hda:Wl a.den) (hs:Wl (a.num+b.num).natAbs) (w:World) :
  Calls Tryz.prog 74 #[fracV a,fracV b] w fun e w'=>e=.returned (fracV (a+b))∧Below w.heap.size w w':=by
 have h1:=isWhole_any a
 rw[decide_eq_false ha] at h1
 have hE:=natEq_runB (m:=a.den - 1) (n:=b.den - 1) (p:=true) (decide_eq_true (by rw[hab]))
 have h3:=iadd_any a.num b.num hna hnb
 have h4:=fden_any a hda
 have h5:=lowest_any (a.num+b.num) a.den a.den_nz hs hda
 rw[add_same hab] at h5
 clear ha hab hna hnb hda hs
 go_enter Tryz.func74,Tryz.ntmps74
 go_wp2_with fail
 (refine(h1 _).mono ?_;rintro e w' ⟨rfl,hb⟩;have h:=tsz ((In.self _).call hb);clear hb;have hc:=h.cell;have hf:=h.frozen)
 go_wp2_with fail
 have h0:=h;have hz0:w.heap.size<w'.heap.size:=(by have:=h.siz;omega);have hz1:w.heap.size+1<w'.heap.size:=(by have:=h.siz;omega);have hz2:w.heap.size+1+1<w'.heap.size:=(by have:=h.siz;omega);refine tfw 8 ?_;refine tset ?_;(repeat (first | refine tfs ?_ |((first |((with_reducible refine flow_pure0 (v:=?_) ?_ ?_ ?_ ?_);rotate_left 1;exact trr;exact trf)|((with_reducible refine flow_pureg (v:=?_) (j:=?_) (b:=?_) ?_ ?_ ?_ ?_);rotate_left 3;exact trr;(focus (intro u w1 hw hd;replace hd:=thn hd;simp[yielded,hd];done))));(focus (intro u w1 hw hd;replace hd:=thn hd;have hc':=hw.cell;go_simp;first |(go_at_call 122;((with_reducible refine(h3 _).mono ?_));rintro e w'' ⟨rfl,hb⟩;refine⟨?_,hb⟩;exact rfl)|(go_at_call 94;((with_reducible refine(h4 _).mono ?_));rintro e w'' ⟨rfl,hb⟩;refine⟨?_,hb⟩;exact rfl)|(go_at_call 92;((with_reducible refine(h5 _).mono ?_));rintro e w'' ⟨rfl,hb⟩;refine⟨?_,hb⟩;exact rfl))))| fail));(try clear hc hf h);intro u w' h ha hdi;replace h:=tsz h.ins;replace ha:=tah ha;have hc:=h.cell;have hf:=h.frozen;replace h:=h.out h0 h0.siz;clear hc hf h0 hz0 hz1 hz2;have hc:=h.cell;have hf:=h.frozen;(try obtain ha:=ha);(try dsimp only);simp only[ha];clear ha hdi
 go_wp2_with fail
 exact bodyPost_ret (v:=fracV (a+b)) (by simp[results,Tryz.results74,go_sem, *]) rfl ⟨rfl,by exact tfin⟩
set_option maxRecDepth 100000 in
set_option maxHeartbeats 2000000 in
theorem fadd_diff (a b:Rat) (hab:¬ a.den=b.den) (hna:Wl a.num.natAbs) (hnb:Wl b.num.natAbs) (hda:Wl a.den) (hdb:Wl b.den) (h1s:Wl (a.num*b.den).natAbs) (h2s:Wl (b.num*a.den).natAbs)
  (hs:Wl (a.num*b.den+b.num*a.den).natAbs) (hd:Wl (a.den*b.den)) (w:World) :
  Calls Tryz.prog 74 #[fracV a,fracV b] w fun e w'=>e=.returned (fracV (a+b))∧Below w.heap.size w w':=by
 have hE:=natEq_runB (m:=a.den - 1) (n:=b.den - 1) (p:=false) (decide_eq_false (fun h=>hab (by have:=a.den_pos;have:=b.den_pos;omega)))
 have hw1:=isWhole_any a
 have hw2:=isWhole_any b
 have c1:=signed_any a hda
 have c2:=signed_any b hdb
 have c3:=imul_any a.num b.den hna hdb
 have c4:=imul_any b.num a.den hnb hda
 have c5:=iadd_any (a.num*b.den) (b.num*a.den) h1s h2s
 have c6:=fden_any a hda
 have c7:=fden_any b hdb
 have c8:=mul_any a.den b.den hda hdb
 have c9:=lowest_any (a.num*b.den+b.num*a.den) (a.den*b.den) (Nat.mul_ne_zero a.den_nz b.den_nz) hs hd
 rw[←Rat.add_def'] at c9
 by_cases ha:a.den=1
 ·have hb:¬ b.den=1:=fun hb=>hab (ha.trans hb.symm)
  rw[decide_eq_true ha] at hw1
  rw[decide_eq_false hb] at hw2
  clear ha hb hab hna hnb hda hdb h1s h2s hs hd
  go_enter Tryz.func74,Tryz.ntmps74
  go_wp2_with fail
  (refine(hw1 _).mono ?_;rintro e w' ⟨rfl,hb⟩;have h:=tsz ((In.self _).call hb);clear hb;have hc:=h.cell;have hf:=h.frozen)
  go_wp2_with fail
  (refine(hw2 _).mono ?_;rintro e w' ⟨rfl,hb⟩;replace h:=In.call tin hb;clear hb hc hf;have hc:=h.cell;have hf:=h.frozen)
  go_wp2_with fail
  have h0:=h;have hz0:w.heap.size<w'.heap.size:=(by have:=h.siz;omega);have hz1:w.heap.size+1<w'.heap.size:=(by have:=h.siz;omega);have hz2:w.heap.size+1+1<w'.heap.size:=(by have:=h.siz;omega);refine tfw 17 ?_;refine tset ?_;(repeat (first | refine tfs ?_ |((first |((with_reducible refine flow_pure0 (v:=?_) ?_ ?_ ?_ ?_);rotate_left 1;exact trr;exact trf)|((with_reducible refine flow_pureg (v:=?_) (j:=?_) (b:=?_) ?_ ?_ ?_ ?_);rotate_left 3;exact trr;(focus (intro u w1 hw hd;replace hd:=thn hd;simp[yielded,hd];done))));(focus (intro u w1 hw hd;replace hd:=thn hd;have hc':=hw.cell;go_simp;first |(go_at_call 123;((with_reducible refine(c1 _).mono ?_));rintro e w'' ⟨rfl,hb⟩;refine⟨?_,hb⟩;exact rfl)|(go_at_call 123;((with_reducible refine(c2 _).mono ?_));rintro e w'' ⟨rfl,hb⟩;refine⟨?_,hb⟩;exact rfl)|(go_at_call 91;((with_reducible refine(c3 _).mono ?_));rintro e w'' ⟨rfl,hb⟩;refine⟨?_,hb⟩;exact rfl)|(go_at_call 91;((with_reducible refine(c4 _).mono ?_));rintro e w'' ⟨rfl,hb⟩;refine⟨?_,hb⟩;exact rfl)|(go_at_call 122;((with_reducible refine(c5 _).mono ?_));rintro e w'' ⟨rfl,hb⟩;refine⟨?_,hb⟩;exact rfl)|(go_at_call 94;((with_reducible refine(c6 _).mono ?_));rintro e w'' ⟨rfl,hb⟩;refine⟨?_,hb⟩;exact rfl)|(go_at_call 94;((with_reducible refine(c7 _).mono ?_));rintro e w'' ⟨rfl,hb⟩;refine⟨?_,hb⟩;exact rfl)|(go_at_call 93;((with_reducible refine(c8 _).mono ?_));rintro e w'' ⟨rfl,hb⟩;refine⟨?_,hb⟩;exact rfl)|(go_at_call 92;((with_reducible refine(c9 _).mono ?_));rintro e w'' ⟨rfl,hb⟩;refine⟨?_,hb⟩;exact rfl))))| fail));(try clear hc hf h);intro u w' h ha hdi;replace h:=tsz h.ins;replace ha:=tah ha;have hc:=h.cell;have hf:=h.frozen;replace h:=h.out h0 h0.siz;clear hc hf h0 hz0 hz1 hz2;have hc:=h.cell;have hf:=h.frozen;(try obtain ha:=ha);(try dsimp only);simp only[ha];clear ha hdi
  go_wp2_with fail
  exact bodyPost_ret (v:=fracV (a+b)) (by simp[results,Tryz.results74,go_sem, *]) rfl ⟨rfl,by exact tfin⟩
 ·rw[decide_eq_false ha] at hw1
  clear ha hab hna hnb hda hdb h1s h2s hs hd
  go_enter Tryz.func74,Tryz.ntmps74
  go_wp2_with fail
  (refine(hw1 _).mono ?_;rintro e w' ⟨rfl,hb⟩;have h:=tsz ((In.self _).call hb);clear hb;have hc:=h.cell;have hf:=h.frozen)
  go_wp2_with fail
  have h0:=h;have hz0:w.heap.size<w'.heap.size:=(by have:=h.siz;omega);have hz1:w.heap.size+1<w'.heap.size:=(by have:=h.siz;omega);have hz2:w.heap.size+1+1<w'.heap.size:=(by have:=h.siz;omega);refine tfw 17 ?_;refine tset ?_;(repeat (first | refine tfs ?_ |((first |((with_reducible refine flow_pure0 (v:=?_) ?_ ?_ ?_ ?_);rotate_left 1;exact trr;exact trf)|((with_reducible refine flow_pureg (v:=?_) (j:=?_) (b:=?_) ?_ ?_ ?_ ?_);rotate_left 3;exact trr;(focus (intro u w1 hw hd;replace hd:=thn hd;simp[yielded,hd];done))));(focus (intro u w1 hw hd;replace hd:=thn hd;have hc':=hw.cell;go_simp;first |(go_at_call 123;((with_reducible refine(c1 _).mono ?_));rintro e w'' ⟨rfl,hb⟩;refine⟨?_,hb⟩;exact rfl)|(go_at_call 123;((with_reducible refine(c2 _).mono ?_));rintro e w'' ⟨rfl,hb⟩;refine⟨?_,hb⟩;exact rfl)|(go_at_call 91;((with_reducible refine(c3 _).mono ?_));rintro e w'' ⟨rfl,hb⟩;refine⟨?_,hb⟩;exact rfl)|(go_at_call 91;((with_reducible refine(c4 _).mono ?_));rintro e w'' ⟨rfl,hb⟩;refine⟨?_,hb⟩;exact rfl)|(go_at_call 122;((with_reducible refine(c5 _).mono ?_));rintro e w'' ⟨rfl,hb⟩;refine⟨?_,hb⟩;exact rfl)|(go_at_call 94;((with_reducible refine(c6 _).mono ?_));rintro e w'' ⟨rfl,hb⟩;refine⟨?_,hb⟩;exact rfl)|(go_at_call 94;((with_reducible refine(c7 _).mono ?_));rintro e w'' ⟨rfl,hb⟩;refine⟨?_,hb⟩;exact rfl)|(go_at_call 93;((with_reducible refine(c8 _).mono ?_));rintro e w'' ⟨rfl,hb⟩;refine⟨?_,hb⟩;exact rfl)|(go_at_call 92;((with_reducible refine(c9 _).mono ?_));rintro e w'' ⟨rfl,hb⟩;refine⟨?_,hb⟩;exact rfl))))| fail));(try clear hc hf h);intro u w' h ha hdi;replace h:=tsz h.ins;replace ha:=tah ha;have hc:=h.cell;have hf:=h.frozen;replace h:=h.out h0 h0.siz;clear hc hf h0 hz0 hz1 hz2;have hc:=h.cell;have hf:=h.frozen;(try obtain ha:=ha);(try dsimp only);simp only[ha];clear ha hdi
  go_wp2_with fail
  exact bodyPost_ret (v:=fracV (a+b)) (by simp[results,Tryz.results74,go_sem, *]) rfl ⟨rfl,by exact tfin⟩
theorem fadd_any {i j:Nat} (a b:Rat) (ha:SzK i a) (hb:SzK j b) (hij:i+j+1<17592186044416) (w:World) :
  Calls Tryz.prog 74 #[fracV a,fracV b] w fun e w'=>e=.returned (fracV (a+b))∧Below w.heap.size w w':=by
 have hna:=ha.num (by omega)
 have hnb:=hb.num (by omega)
 have hda:=ha.dn (by omega)
 have hdb:=hb.dn (by omega)
 by_cases hab:a.den=b.den
 ·by_cases h1:a.den=1
  ·exact fadd_whole a b h1 (by rw[←hab];exact h1) hna hnb w
  ·refine fadd_same a b h1 hab hna hnb hda ?_ w
   refine Wl_of (i:=i+j+1) ?_ hij
   have h3:=Int.natAbs_add_le a.num b.num
   have h1:2 ^ i≤2 ^ (i+j):=Nat.pow_le_pow_right (by decide) (by omega)
   have h2:2 ^ j≤2 ^ (i+j):=Nat.pow_le_pow_right (by decide) (by omega)
   have:=ha.1;have:=hb.1
   rw[Nat.pow_succ];omega
 ·have h1:=mul_lt_pow ha.1 hb.2
  have h2:=mul_lt_pow hb.1 ha.2
  have h3:=Int.natAbs_add_le (a.num*b.den) (b.num*a.den)
  have e1:(a.num*b.den).natAbs=a.num.natAbs*b.den:=by rw[Int.natAbs_mul,Int.natAbs_natCast]
  have e2:(b.num*a.den).natAbs=b.num.natAbs*a.den:=by rw[Int.natAbs_mul,Int.natAbs_natCast]
  rw[Nat.add_comm j i] at h2
  exact fadd_diff a b hab hna hnb hda hdb (Wl_of (by rw[e1];exact h1) (by omega)) (Wl_of (by rw[e2];exact h2) (by omega)) (Wl_of (i:=i+j+1) (by rw[Nat.pow_succ];omega) hij) (Wl_of (mul_lt_pow ha.2 hb.2) (by omega)) w
end Gus
end
section
namespace Gus
open Go Go.RowKit Go.Proofs
theorem inv_mk {b:Rat} (hb:b≠0):mkRat (sgn (decide (b.num<0)) b.den) b.num.natAbs=b⁻¹:=by
 rw[Rat.inv_def]
 have hn:b.num≠0:=fun h0=>hb (Rat.num_eq_zero.1 h0)
 unfold sgn
 cases hm:b.num with
 | ofNat m=>
  simp[Rat.divInt]
  rw[if_neg (by omega)]
 | negSucc m=>rw[Rat.mkRat_def,dif_neg (by simp)];simp[Rat.divInt]
set_option maxRecDepth 100000 in
set_option maxHeartbeats 1000000 in
theorem fmul_whole (a b:Rat) (ha:a.den=1) (hb:b.den=1) (hna:Wl a.num.natAbs) (hnb:Wl b.num.natAbs) (w:World) :
  Calls Tryz.prog 39 #[fracV a,fracV b] w fun e w'=>e=.returned (fracV (a*b))∧Below w.heap.size w w':=by
 have h1:=isWhole_any a
 have h2:=isWhole_any b
 rw[decide_eq_true ha] at h1
 rw[decide_eq_true hb] at h2
 have h3:=imul_any a.num b.num hna hnb
 have h4:=whole_any (a.num*b.num)
 rw[mul_whole ha hb] at h4
 clear ha hb hna hnb
 go_enter Tryz.func39,Tryz.ntmps39
 go_wp2_with fail
 (refine(h1 _).mono ?_;rintro e w' ⟨rfl,hb⟩;have h:=tsz ((In.self _).call hb);clear hb;have hc:=h.cell;have hf:=h.frozen)
 go_wp2_with fail
 (refine(h2 _).mono ?_;rintro e w' ⟨rfl,hb⟩;replace h:=In.call tin hb;clear hb hc hf;have hc:=h.cell;have hf:=h.frozen)
 go_wp2_with fail
 (refine(h3 _).mono ?_;rintro e w' ⟨rfl,hb⟩;replace h:=In.call tin hb;clear hb hc hf;have hc:=h.cell;have hf:=h.frozen)
 go_wp2_with fail
 (refine(h4 _).mono ?_;rintro e w' ⟨rfl,hb⟩;replace h:=In.call tin hb;clear hb hc hf;have hc:=h.cell;have hf:=h.frozen)
 go_wp2_with fail
 exact bodyPost_ret (v:=fracV (a*b)) (by simp[results,Tryz.results39,go_sem, *]) rfl ⟨rfl,by exact tfin⟩
set_option maxRecDepth 100000 in
set_option maxHeartbeats 2000000 in
theorem fmul_frac (a b:Rat) (hab:¬ (a.den=1∧b.den=1)) (hna:Wl a.num.natAbs) (hnb:Wl b.num.natAbs) (hda:Wl a.den) (hdb:Wl b.den) (hs:Wl (a.num*b.num).natAbs) (hd:Wl (a.den*b.den)) (w:World) :
  Calls Tryz.prog 39 #[fracV a,fracV b] w fun e w'=>e=.returned (fracV (a*b))∧Below w.heap.size w w':=by
 have hw1:=isWhole_any a
 have hw2:=isWhole_any b
 have c3:=imul_any a.num b.num hna hnb
 have c6:=fden_any a hda
 have c7:=fden_any b hdb
 have c8:=mul_any a.den b.den hda hdb
 have c9:=lowest_any (a.num*b.num) (a.den*b.den) (Nat.mul_ne_zero a.den_nz b.den_nz) hs hd
 rw[←Rat.mul_def'] at c9
 by_cases ha:a.den=1
 ·have hb:¬ b.den=1:=fun hb=>hab ⟨ha,hb⟩
  rw[decide_eq_true ha] at hw1
  rw[decide_eq_false hb] at hw2
  clear ha hb hab hna hnb hda hdb hs hd
  go_enter Tryz.func39,Tryz.ntmps39
  go_wp2_with fail
  (refine(hw1 _).mono ?_;rintro e w' ⟨rfl,hb⟩;have h:=tsz ((In.self _).call hb);clear hb;have hc:=h.cell;have hf:=h.frozen)
  go_wp2_with fail
  (refine(hw2 _).mono ?_;rintro e w' ⟨rfl,hb⟩;replace h:=In.call tin hb;clear hb hc hf;have hc:=h.cell;have hf:=h.frozen)
  go_wp2_with fail
  have h0:=h;have hz0:w.heap.size<w'.heap.size:=(by have:=h.siz;omega);have hz1:w.heap.size+1<w'.heap.size:=(by have:=h.siz;omega);have hz2:w.heap.size+1+1<w'.heap.size:=(by have:=h.siz;omega);refine tfw 11 ?_;refine tset ?_;(repeat (first | refine tfs ?_ |((first |((with_reducible refine flow_pure0 (v:=?_) ?_ ?_ ?_ ?_);rotate_left 1;exact trr;exact trf)|((with_reducible refine flow_pureg (v:=?_) (j:=?_) (b:=?_) ?_ ?_ ?_ ?_);rotate_left 3;exact trr;(focus (intro u w1 hw hd;replace hd:=thn hd;simp[yielded,hd];done))));(focus (intro u w1 hw hd;replace hd:=thn hd;have hc':=hw.cell;go_simp;first |(go_at_call 91;((with_reducible refine(c3 _).mono ?_));rintro e w'' ⟨rfl,hb⟩;refine⟨?_,hb⟩;exact rfl)|(go_at_call 94;((with_reducible refine(c6 _).mono ?_));rintro e w'' ⟨rfl,hb⟩;refine⟨?_,hb⟩;exact rfl)|(go_at_call 94;((with_reducible refine(c7 _).mono ?_));rintro e w'' ⟨rfl,hb⟩;refine⟨?_,hb⟩;exact rfl)|(go_at_call 93;((with_reducible refine(c8 _).mono ?_));rintro e w'' ⟨rfl,hb⟩;refine⟨?_,hb⟩;exact rfl)|(go_at_call 92;((with_reducible refine(c9 _).mono ?_));rintro e w'' ⟨rfl,hb⟩;refine⟨?_,hb⟩;exact rfl))))| fail));(try clear hc hf h);intro u w' h ha hdi;replace h:=tsz h.ins;replace ha:=tah ha;have hc:=h.cell;have hf:=h.frozen;replace h:=h.out h0 h0.siz;clear hc hf h0 hz0 hz1 hz2;have hc:=h.cell;have hf:=h.frozen;(try obtain ha:=ha);(try dsimp only);simp only[ha];clear ha hdi
  go_wp2_with fail
  exact bodyPost_ret (v:=fracV (a*b)) (by simp[results,Tryz.results39,go_sem, *]) rfl ⟨rfl,by exact tfin⟩
 ·rw[decide_eq_false ha] at hw1
  clear ha hab hna hnb hda hdb hs hd
  go_enter Tryz.func39,Tryz.ntmps39
  go_wp2_with fail
  (refine(hw1 _).mono ?_;rintro e w' ⟨rfl,hb⟩;have h:=tsz ((In.self _).call hb);clear hb;have hc:=h.cell;have hf:=h.frozen)
  go_wp2_with fail
  have h0:=h;have hz0:w.heap.size<w'.heap.size:=(by have:=h.siz;omega);have hz1:w.heap.size+1<w'.heap.size:=(by have:=h.siz;omega);have hz2:w.heap.size+1+1<w'.heap.size:=(by have:=h.siz;omega);refine tfw 11 ?_;refine tset ?_;(repeat (first | refine tfs ?_ |((first |((with_reducible refine flow_pure0 (v:=?_) ?_ ?_ ?_ ?_);rotate_left 1;exact trr;exact trf)|((with_reducible refine flow_pureg (v:=?_) (j:=?_) (b:=?_) ?_ ?_ ?_ ?_);rotate_left 3;exact trr;(focus (intro u w1 hw hd;replace hd:=thn hd;simp[yielded,hd];done))));(focus (intro u w1 hw hd;replace hd:=thn hd;have hc':=hw.cell;go_simp;first |(go_at_call 91;((with_reducible refine(c3 _).mono ?_));rintro e w'' ⟨rfl,hb⟩;refine⟨?_,hb⟩;exact rfl)|(go_at_call 94;((with_reducible refine(c6 _).mono ?_));rintro e w'' ⟨rfl,hb⟩;refine⟨?_,hb⟩;exact rfl)|(go_at_call 94;((with_reducible refine(c7 _).mono ?_));rintro e w'' ⟨rfl,hb⟩;refine⟨?_,hb⟩;exact rfl)|(go_at_call 93;((with_reducible refine(c8 _).mono ?_));rintro e w'' ⟨rfl,hb⟩;refine⟨?_,hb⟩;exact rfl)|(go_at_call 92;((with_reducible refine(c9 _).mono ?_));rintro e w'' ⟨rfl,hb⟩;refine⟨?_,hb⟩;exact rfl))))| fail));(try clear hc hf h);intro u w' h ha hdi;replace h:=tsz h.ins;replace ha:=tah ha;have hc:=h.cell;have hf:=h.frozen;replace h:=h.out h0 h0.siz;clear hc hf h0 hz0 hz1 hz2;have hc:=h.cell;have hf:=h.frozen;(try obtain ha:=ha);(try dsimp only);simp only[ha];clear ha hdi
  go_wp2_with fail
  exact bodyPost_ret (v:=fracV (a*b)) (by simp[results,Tryz.results39,go_sem, *]) rfl ⟨rfl,by exact tfin⟩
theorem fmul_any {i j:Nat} (a b:Rat) (ha:SzK i a) (hb:SzK j b) (hij:i+j<17592186044416) (w:World) :
  Calls Tryz.prog 39 #[fracV a,fracV b] w fun e w'=>e=.returned (fracV (a*b))∧Below w.heap.size w w':=by
 have hna:=ha.num (by omega)
 have hnb:=hb.num (by omega)
 have hda:=ha.dn (by omega)
 have hdb:=hb.dn (by omega)
 by_cases hab:a.den=1∧b.den=1
 ·exact fmul_whole a b hab.1 hab.2 hna hnb w
 ·exact fmul_frac a b hab hna hnb hda hdb (Wl_of (by rw[Int.natAbs_mul];exact mul_lt_pow ha.1 hb.1) hij) (Wl_of (mul_lt_pow ha.2 hb.2) hij) w
set_option maxRecDepth 100000 in
set_option maxHeartbeats 2000000 in
theorem fdiv_any {i j:Nat} (a b:Rat) (hb0:b≠0) (ha:SzK i a) (hb:SzK j b) (hij:i+j<17592186044416) (w:World) :
  Calls Tryz.prog 150 #[fracV a,fracV b] w fun e w'=>e=.returned (.tuple #[fracV (a / b),.int .i64 0])∧Below w.heap.size w w':=by
 have hbn:b.num≠0:=fun h0=>hb0 (Rat.num_eq_zero.1 h0)
 have hj:=hb.pos
 have c0:=fsign_any b
 have hi0:¬ isign b.num=0:=by unfold isign;split <;> (try split) <;> simp_all
 have hs1:decide (isign b.num<0)=decide (b.num<0):=by rw[decide_eq_decide];exact isign_neg b.num
 obtain⟨s,hs⟩:∃ s,s=decide (b.num<0):=⟨_,rfl⟩
 rw[←hs] at hs1
 have c1:=fden_any b (hb.dn (by omega))
 have c2:=from_any s b.den
 have c3:=abs_any b.num
 have c4:=lowest_any (sgn s b.den) b.num.natAbs (by omega) (by rw[sgn_abs];exact hb.dn (by omega)) (hb.num (by omega))
 have c5:=fmul_any a b⁻¹ ha (hb.inv hj) hij
 rw[←Rat.div_def] at c5
 rw[hs,inv_mk hb0] at c4
 rw[←hs] at c4
 obtain⟨z,hz⟩:∃ z,z=isign b.num:=⟨_,rfl⟩
 rw[←hz] at hs1 hi0 c0
 obtain⟨b',hb'⟩:∃ b',b'=b⁻¹:=⟨_,rfl⟩
 rw[←hb'] at c4 c5
 obtain⟨q,hq⟩:∃ q,q=a / b:=⟨_,rfl⟩
 rw[←hq] at c5 ⊢
 have hz0:(z == 0)=false:=by simpa using hi0
 clear hs hz hb' hq ha hb hij hb0 hbn hj hi0
 go_enter Tryz.func150,Tryz.ntmps150
 go_wp2_with fail
 (refine(c0 _).mono ?_;rintro e w' ⟨rfl,hb⟩;have h:=tsz ((In.self _).call hb);clear hb;have hc:=h.cell;have hf:=h.frozen)
 go_wp2_with fail
 have h0:=h
 have hz0:w.heap.size<w'.heap.size:=(by have:=h.siz;omega);have hz1:w.heap.size+1<w'.heap.size:=(by have:=h.siz;omega);have hz2:w.heap.size+1+1<w'.heap.size:=(by have:=h.siz;omega)
 refine tfw 11 ?_;refine tset ?_;(repeat (first | refine tfs ?_ |((first |((with_reducible refine flow_pure0 (v:=?_) ?_ ?_ ?_ ?_);rotate_left 1;exact trr;exact trf)|((with_reducible refine flow_pureg (v:=?_) (j:=?_) (b:=?_) ?_ ?_ ?_ ?_);rotate_left 3;exact trr;(focus (intro u w1 hw hd;replace hd:=thn hd;simp[yielded,hd];done))));(focus (intro u w1 hw hd;replace hd:=thn hd;have hc':=hw.cell;go_simp;first |(go_at_call 30;((with_reducible refine(c0 _).mono ?_));rintro e w'' ⟨rfl,hb⟩;refine⟨?_,hb⟩;exact rfl)|(go_at_call 94;((with_reducible refine(c1 _).mono ?_));rintro e w'' ⟨rfl,hb⟩;refine⟨?_,hb⟩;exact rfl)|(go_at_call 139;((with_reducible refine(c2 _).mono ?_));rintro e w'' ⟨rfl,hb⟩;refine⟨?_,hb⟩;exact rfl)|(go_at_call 135;((with_reducible refine(c3 _).mono ?_));rintro e w'' ⟨rfl,hb⟩;refine⟨?_,hb⟩;exact rfl)|(go_at_call 92;((with_reducible refine(c4 _).mono ?_));rintro e w'' ⟨rfl,hb⟩;refine⟨?_,hb⟩;exact rfl))))| fail))
 (try clear hc hf h);intro u w' h ha hdi;replace h:=tsz h.ins;replace ha:=tah ha;have hc:=h.cell;have hf:=h.frozen
 obtain⟨ha,G,hu,hGN,bg1⟩:=ha
 (try obtain ha:=ha);(try dsimp only);simp only[ha,hu];clear ha hdi hu
 replace h:=h.out h0 h0.siz
 have n0:¬ G=w.heap.size:=by omega
 have n1:¬ w.heap.size=G:=by omega
 have n2:¬ G=w.heap.size+1:=by omega
 have n3:¬ w.heap.size+1=G:=by omega
 have n4:¬ G=w.heap.size+1+1:=by omega
 have n5:¬ w.heap.size+1+1=G:=by omega
 have hNG:w.heap.size+1+1+1≤G:=by omega
 have g0:=bg1.c0
 have g1:=bg1.c1
 have g2:=bg1.c2
 have g3:=bg1.c3
 have g4:=bg1.c4
 have f0:=bg1.frozen 0
 have f1:=bg1.frozen 1
 have f2:=bg1.frozen 2
 have f3:=bg1.frozen 3
 have f4:=bg1.frozen 4
 clear hc hf h0 hz0 hz1 hz2 bg1 hGN
 have hc:=h.cell
 have hf:=h.frozen
 go_upto_region 4 with fail
 go_wp2_with fail
 ((with_reducible refine(c5 _).mono ?_))
 rintro e w' ⟨rfl,hb⟩
 replace h:=((((((h.setCell (p:=⟨G,0,none⟩) hNG (.int .u64 (lo b'.num.natAbs))).setCell (p:=⟨G,1,none⟩) hNG (.string (bg b'.num.natAbs))).setCell (p:=⟨G,2,none⟩) hNG (.bool (decide (b'.num<0)))).setCell (p:=⟨G,3,none⟩) hNG (.int .u64 (lo (b'.den - 1)))).setCell (p:=⟨G,4,none⟩) hNG (.string (bg (b'.den - 1)))).call hb)
 clear hc hf hb
 have hc:=h.cell
 have hf:=h.frozen
 go_wp2_with fail
 exact bodyPost_ret (v:=.tuple #[fracV q,.int .i64 0]) (by simp[results,Tryz.results150,go_sem,hc]) rfl ⟨rfl,by exact tfin⟩
set_option maxRecDepth 100000 in
set_option maxHeartbeats 1000000 in
theorem fracOf_any (n d:Int) (hn0:-9223372036854775808≤n) (hn1:n<9223372036854775808) (hd0:-9223372036854775808≤d) (hd1:d<9223372036854775808) (hd:d≠0) (w:World) :
  Calls Tryz.prog 99 #[.int .i64 n,.int .i64 d] w fun e w'=>e=.returned (.tuple #[fracV ((n:Rat) / (d:Rat)),.int .i64 0])∧Below w.heap.size w w':=by
 have h1:=fracInt_any n hn0 hn1
 have h2:=fracInt_any d hd0 hd1
 have hz:∀ z:Int,-9223372036854775808≤z→z<9223372036854775808→SzK 64 (z:Rat):=fun z h1 h2=>by
  constructor
  ·rw[Rat.num_intCast]
   have:(2:Nat) ^ 64=18446744073709551616:=by decide
   omega
  ·rw[Rat.den_intCast];decide
 have h3:=fdiv_any (n:Rat) (d:Rat) (fun h=>hd (Rat.intCast_eq_zero_iff.1 h)) (hz n hn0 hn1) (hz d hd0 hd1) (by decide)
 clear hn0 hn1 hd0 hd1 hd hz
 go_enter Tryz.func99,Tryz.ntmps99
 go_wp2_with fail
 (refine(h1 _).mono ?_;rintro e w' ⟨rfl,hb⟩;have h:=tsz ((In.self _).call hb);clear hb;have hc:=h.cell;have hf:=h.frozen)
 go_wp2_with fail
 (refine(h2 _).mono ?_;rintro e w' ⟨rfl,hb⟩;replace h:=In.call tin hb;clear hb hc hf;have hc:=h.cell;have hf:=h.frozen)
 go_wp2_with fail
 (refine(h3 _).mono ?_;rintro e w' ⟨rfl,hb⟩;replace h:=In.call tin hb;clear hb hc hf;have hc:=h.cell;have hf:=h.frozen)
 go_wp2_with fail
 exact bodyPost_ret (v:=.tuple #[fracV ((n:Rat) / (d:Rat)),.int .i64 0]) (by simp[results,Tryz.results99,go_sem,hc]) rfl ⟨rfl,by exact tfin⟩
end Gus
end
