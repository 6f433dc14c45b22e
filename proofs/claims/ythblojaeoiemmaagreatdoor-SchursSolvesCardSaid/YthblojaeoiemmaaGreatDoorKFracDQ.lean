/- Proved here: parts of the proof: KFracD KSpA KMap. Conditions: those that each theorem states. -/
import Derived.Test.YthblojaeoiemmaaGreatDoorKFlowBQ
import Derived.DeepKeys5
import Derived.Maps.RangeWalk
import Derived.Maps.OwnSet
section
namespace Gus
open Go Go.RowKit Go.Proofs
theorem inv_mk {b:Rat} (hb:b≠0):mkRat (sgn (decide (b.num<0)) b.den) b.num.natAbs=b⁻¹:=by
 rw[Rat.inv_def]
 have hn:b.num≠0:=fun h0=>hb (Rat.num_eq_zero.1 h0)
 unfold sgn
 cases hm:b.num with
 | ofNat m=>
  simp[Rat.divInt]
  rw[if_neg (by omega)]
 | negSucc m=>rw[Rat.mkRat_def,dif_neg (by simp)];simp[Rat.divInt]
set_option maxRecDepth 100000 in
set_option maxHeartbeats 1000000 in
theorem fmul_whole (a b:Rat) (ha:a.den=1) (hb:b.den=1) (hna:Wl a.num.natAbs) (hnb:Wl b.num.natAbs) (w:World) :
  Calls Tryz.prog 39 #[fracV a,fracV b] w fun e w'=>e=.returned (fracV (a*b))∧Below w.heap.size w w':=by
 have h1:=isWhole_any a
 have h2:=isWhole_any b
 rw[decide_eq_true ha] at h1
 rw[decide_eq_true hb] at h2
 have h3:=imul_any a.num b.num hna hnb
 have h4:=whole_any (a.num*b.num)
 rw[mul_whole ha hb] at h4
 clear ha hb hna hnb
 go_enter Tryz.func39,Tryz.ntmps39
 go_wp2_with fail
 (refine(h1 _).mono ?_;rintro e w' ⟨rfl,hb⟩;have h:=tsz ((In.self _).call hb);clear hb;have hc:=h.cell;have hf:=h.frozen)
 go_wp2_with fail
 (refine(h2 _).mono ?_;rintro e w' ⟨rfl,hb⟩;replace h:=In.call tin hb;clear hb hc hf;have hc:=h.cell;have hf:=h.frozen)
 go_wp2_with fail
 (refine(h3 _).mono ?_;rintro e w' ⟨rfl,hb⟩;replace h:=In.call tin hb;clear hb hc hf;have hc:=h.cell;have hf:=h.frozen)
 go_wp2_with fail
 (refine(h4 _).mono ?_;rintro e w' ⟨rfl,hb⟩;replace h:=In.call tin hb;clear hb hc hf;have hc:=h.cell;have hf:=h.frozen)
 go_wp2_with fail
 exact bodyPost_ret (v:=fracV (a*b)) (by simp[results,Tryz.results39,go_sem, *]) rfl ⟨rfl,by exact tfin⟩
set_option maxRecDepth 100000 in
set_option maxHeartbeats 2000000 in
theorem fmul_frac (a b:Rat) (hab:¬ (a.den=1∧b.den=1)) (hna:Wl a.num.natAbs) (hnb:Wl b.num.natAbs) (hda:Wl a.den) (hdb:Wl b.den) (hs:Wl (a.num*b.num).natAbs) (hd:Wl (a.den*b.den)) (w:World) :
  Calls Tryz.prog 39 #[fracV a,fracV b] w fun e w'=>e=.returned (fracV (a*b))∧Below w.heap.size w w':=by
 have hw1:=isWhole_any a
 have hw2:=isWhole_any b
 have c3:=imul_any a.num b.num hna hnb
 have c6:=fden_any a hda
 have c7:=fden_any b hdb
 have c8:=mul_any a.den b.den hda hdb
 have c9:=lowest_any (a.num*b.num) (a.den*b.den) (Nat.mul_ne_zero a.den_nz b.den_nz) hs hd
 rw[←Rat.mul_def'] at c9
 by_cases ha:a.den=1
 ·have hb:¬ b.den=1:=fun hb=>hab ⟨ha,hb⟩
  rw[decide_eq_true ha] at hw1
  rw[decide_eq_false hb] at hw2
  clear ha hb hab hna hnb hda hdb hs hd
  go_enter Tryz.func39,Tryz.ntmps39
  go_wp2_with fail
  (refine(hw1 _).mono ?_;rintro e w' ⟨rfl,hb⟩;have h:=tsz ((In.self _).call hb);clear hb;have hc:=h.cell;have hf:=h.frozen)
  go_wp2_with fail
  (refine(hw2 _).mono ?_;rintro e w' ⟨rfl,hb⟩;replace h:=In.call tin hb;clear hb hc hf;have hc:=h.cell;have hf:=h.frozen)
  go_wp2_with fail
  have h0:=h;have hz0:w.heap.size<w'.heap.size:=(by have:=h.siz;omega);have hz1:w.heap.size+1<w'.heap.size:=(by have:=h.siz;omega);have hz2:w.heap.size+1+1<w'.heap.size:=(by have:=h.siz;omega);refine tfw 11 ?_;refine tset ?_;(repeat (first | refine tfs ?_ |((first |((with_reducible refine flow_pure0 (v:=?_) ?_ ?_ ?_ ?_);rotate_left 1;exact trr;exact trf)|((with_reducible refine flow_pureg (v:=?_) (j:=?_) (b:=?_) ?_ ?_ ?_ ?_);rotate_left 3;exact trr;exact thg));(focus (intro u w1 hw hd;replace hd:=thn hd;have hc':=hw.cell;go_simp;first |(go_at_call 91;((with_reducible refine(c3 _).mono ?_));rintro e w'' ⟨rfl,hb⟩;refine⟨?_,hb⟩;exact rfl)|(go_at_call 94;((with_reducible refine(c6 _).mono ?_));rintro e w'' ⟨rfl,hb⟩;refine⟨?_,hb⟩;exact rfl)|(go_at_call 94;((with_reducible refine(c7 _).mono ?_));rintro e w'' ⟨rfl,hb⟩;refine⟨?_,hb⟩;exact rfl)|(go_at_call 93;((with_reducible refine(c8 _).mono ?_));rintro e w'' ⟨rfl,hb⟩;refine⟨?_,hb⟩;exact rfl)|(go_at_call 92;((with_reducible refine(c9 _).mono ?_));rintro e w'' ⟨rfl,hb⟩;refine⟨?_,hb⟩;exact rfl))))));(try clear hc hf h);intro u w' h ha hdi;replace h:=tsz h.ins;replace ha:=tah ha;have hc:=h.cell;have hf:=h.frozen;replace h:=h.out h0 h0.siz;clear hc hf h0 hz0 hz1 hz2;have hc:=h.cell;have hf:=h.frozen;(try obtain ha:=ha);(try dsimp only);simp only[ha];clear ha hdi
  go_wp2_with fail
  exact bodyPost_ret (v:=fracV (a*b)) (by simp[results,Tryz.results39,go_sem, *]) rfl ⟨rfl,by exact tfin⟩
 ·rw[decide_eq_false ha] at hw1
  clear ha hab hna hnb hda hdb hs hd
  go_enter Tryz.func39,Tryz.ntmps39
  go_wp2_with fail
  (refine(hw1 _).mono ?_;rintro e w' ⟨rfl,hb⟩;have h:=tsz ((In.self _).call hb);clear hb;have hc:=h.cell;have hf:=h.frozen)
  go_wp2_with fail
  have h0:=h;have hz0:w.heap.size<w'.heap.size:=(by have:=h.siz;omega);have hz1:w.heap.size+1<w'.heap.size:=(by have:=h.siz;omega);have hz2:w.heap.size+1+1<w'.heap.size:=(by have:=h.siz;omega);refine tfw 11 ?_;refine tset ?_;(repeat (first | refine tfs ?_ |((first |((with_reducible refine flow_pure0 (v:=?_) ?_ ?_ ?_ ?_);rotate_left 1;exact trr;exact trf)|((with_reducible refine flow_pureg (v:=?_) (j:=?_) (b:=?_) ?_ ?_ ?_ ?_);rotate_left 3;exact trr;exact thg));(focus (intro u w1 hw hd;replace hd:=thn hd;have hc':=hw.cell;go_simp;first |(go_at_call 91;((with_reducible refine(c3 _).mono ?_));rintro e w'' ⟨rfl,hb⟩;refine⟨?_,hb⟩;exact rfl)|(go_at_call 94;((with_reducible refine(c6 _).mono ?_));rintro e w'' ⟨rfl,hb⟩;refine⟨?_,hb⟩;exact rfl)|(go_at_call 94;((with_reducible refine(c7 _).mono ?_));rintro e w'' ⟨rfl,hb⟩;refine⟨?_,hb⟩;exact rfl)|(go_at_call 93;((with_reducible refine(c8 _).mono ?_));rintro e w'' ⟨rfl,hb⟩;refine⟨?_,hb⟩;exact rfl)|(go_at_call 92;((with_reducible refine(c9 _).mono ?_));rintro e w'' ⟨rfl,hb⟩;refine⟨?_,hb⟩;exact rfl))))));(try clear hc hf h);intro u w' h ha hdi;replace h:=tsz h.ins;replace ha:=tah ha;have hc:=h.cell;have hf:=h.frozen;replace h:=h.out h0 h0.siz;clear hc hf h0 hz0 hz1 hz2;have hc:=h.cell;have hf:=h.frozen;(try obtain ha:=ha);(try dsimp only);simp only[ha];clear ha hdi
  go_wp2_with fail
  exact bodyPost_ret (v:=fracV (a*b)) (by simp[results,Tryz.results39,go_sem, *]) rfl ⟨rfl,by exact tfin⟩
theorem fmul_any {i j:Nat} (a b:Rat) (ha:SzK i a) (hb:SzK j b) (hij:i+j<17592186044416) (w:World) :
  Calls Tryz.prog 39 #[fracV a,fracV b] w fun e w'=>e=.returned (fracV (a*b))∧Below w.heap.size w w':=by
 have hna:=ha.num (by omega)
 have hnb:=hb.num (by omega)
 have hda:=ha.dn (by omega)
 have hdb:=hb.dn (by omega)
 by_cases hab:a.den=1∧b.den=1
 ·exact fmul_whole a b hab.1 hab.2 hna hnb w
 ·exact fmul_frac a b hab hna hnb hda hdb (Wl_of (by rw[Int.natAbs_mul];exact mul_lt_pow ha.1 hb.1) hij) (Wl_of (mul_lt_pow ha.2 hb.2) hij) w
set_option maxRecDepth 100000 in
set_option maxHeartbeats 2000000 in
theorem fdiv_any {i j:Nat} (a b:Rat) (hb0:b≠0) (ha:SzK i a) (hb:SzK j b) (hij:i+j<17592186044416) (w:World) :
  Calls Tryz.prog 150 #[fracV a,fracV b] w fun e w'=>e=.returned (.tuple #[fracV (a / b),.int .i64 0])∧Below w.heap.size w w':=by
 have hbn:b.num≠0:=fun h0=>hb0 (Rat.num_eq_zero.1 h0)
 have hj:=hb.pos
 have c0:=fsign_any b
 have hi0:¬ isign b.num=0:=by unfold isign;split <;> (try split) <;> simp_all
 have hs1:decide (isign b.num<0)=decide (b.num<0):=by rw[decide_eq_decide];exact isign_neg b.num
 obtain⟨s,hs⟩:∃ s,s=decide (b.num<0):=⟨_,rfl⟩
 rw[←hs] at hs1
 have c1:=fden_any b (hb.dn (by omega))
 have c2:=from_any s b.den
 have c3:=abs_any b.num
 have c4:=lowest_any (sgn s b.den) b.num.natAbs (by omega) (by rw[sgn_abs];exact hb.dn (by omega)) (hb.num (by omega))
 have c5:=fmul_any a b⁻¹ ha (hb.inv hj) hij
 rw[←Rat.div_def] at c5
 rw[hs,inv_mk hb0] at c4
 rw[←hs] at c4
 obtain⟨z,hz⟩:∃ z,z=isign b.num:=⟨_,rfl⟩
 rw[←hz] at hs1 hi0 c0
 obtain⟨b',hb'⟩:∃ b',b'=b⁻¹:=⟨_,rfl⟩
 rw[←hb'] at c4 c5
 obtain⟨q,hq⟩:∃ q,q=a / b:=⟨_,rfl⟩
 rw[←hq] at c5 ⊢
 have hz0:(z == 0)=false:=by simpa using hi0
 clear hs hz hb' hq ha hb hij hb0 hbn hj hi0
 go_enter Tryz.func150,Tryz.ntmps150
 go_wp2_with fail
 (refine(c0 _).mono ?_;rintro e w' ⟨rfl,hb⟩;have h:=tsz ((In.self _).call hb);clear hb;have hc:=h.cell;have hf:=h.frozen)
 go_wp2_with fail
 have h0:=h
 have hz0:w.heap.size<w'.heap.size:=(by have:=h.siz;omega);have hz1:w.heap.size+1<w'.heap.size:=(by have:=h.siz;omega);have hz2:w.heap.size+1+1<w'.heap.size:=(by have:=h.siz;omega)
 refine tfw 11 ?_;refine tset ?_;(repeat (first | refine tfs ?_ |((first |((with_reducible refine flow_pure0 (v:=?_) ?_ ?_ ?_ ?_);rotate_left 1;exact trr;exact trf)|((with_reducible refine flow_pureg (v:=?_) (j:=?_) (b:=?_) ?_ ?_ ?_ ?_);rotate_left 3;exact trr;exact thg));(focus (intro u w1 hw hd;replace hd:=thn hd;have hc':=hw.cell;go_simp;first |(go_at_call 30;((with_reducible refine(c0 _).mono ?_));rintro e w'' ⟨rfl,hb⟩;refine⟨?_,hb⟩;exact rfl)|(go_at_call 94;((with_reducible refine(c1 _).mono ?_));rintro e w'' ⟨rfl,hb⟩;refine⟨?_,hb⟩;exact rfl)|(go_at_call 139;((with_reducible refine(c2 _).mono ?_));rintro e w'' ⟨rfl,hb⟩;refine⟨?_,hb⟩;exact rfl)|(go_at_call 135;((with_reducible refine(c3 _).mono ?_));rintro e w'' ⟨rfl,hb⟩;refine⟨?_,hb⟩;exact rfl)|(go_at_call 92;((with_reducible refine(c4 _).mono ?_));rintro e w'' ⟨rfl,hb⟩;refine⟨?_,hb⟩;exact rfl))))))
 (try clear hc hf h);intro u w' h ha hdi;replace h:=tsz h.ins;replace ha:=tah ha;have hc:=h.cell;have hf:=h.frozen
 obtain⟨ha,G,hu,hGN,bg1⟩:=ha
 (try obtain ha:=ha);(try dsimp only);simp only[ha,hu];clear ha hdi hu
 replace h:=h.out h0 h0.siz
 have n0:¬ G=w.heap.size:=by omega
 have n1:¬ w.heap.size=G:=by omega
 have n2:¬ G=w.heap.size+1:=by omega
 have n3:¬ w.heap.size+1=G:=by omega
 have n4:¬ G=w.heap.size+1+1:=by omega
 have n5:¬ w.heap.size+1+1=G:=by omega
 have hNG:w.heap.size+1+1+1≤G:=by omega
 have g0:=bg1.c0
 have g1:=bg1.c1
 have g2:=bg1.c2
 have g3:=bg1.c3
 have g4:=bg1.c4
 have f0:=bg1.frozen 0
 have f1:=bg1.frozen 1
 have f2:=bg1.frozen 2
 have f3:=bg1.frozen 3
 have f4:=bg1.frozen 4
 clear hc hf h0 hz0 hz1 hz2 bg1 hGN
 have hc:=h.cell
 have hf:=h.frozen
 go_upto_region 4 with fail
 go_wp2_with fail
 ((with_reducible refine(c5 _).mono ?_))
 rintro e w' ⟨rfl,hb⟩
 replace h:=((((((h.setCell (p:=⟨G,0,none⟩) hNG (.int .u64 (lo b'.num.natAbs))).setCell (p:=⟨G,1,none⟩) hNG (.string (bg b'.num.natAbs))).setCell (p:=⟨G,2,none⟩) hNG (.bool (decide (b'.num<0)))).setCell (p:=⟨G,3,none⟩) hNG (.int .u64 (lo (b'.den - 1)))).setCell (p:=⟨G,4,none⟩) hNG (.string (bg (b'.den - 1)))).call hb)
 clear hc hf hb
 have hc:=h.cell
 have hf:=h.frozen
 go_wp2_with fail
 exact bodyPost_ret (v:=.tuple #[fracV q,.int .i64 0]) (by simp[results,Tryz.results150,go_sem,hc]) rfl ⟨rfl,by exact tfin⟩
set_option maxRecDepth 100000 in
set_option maxHeartbeats 1000000 in
theorem fracOf_any (n d:Int) (hn0:-9223372036854775808≤n) (hn1:n<9223372036854775808) (hd0:-9223372036854775808≤d) (hd1:d<9223372036854775808) (hd:d≠0) (w:World) :
  Calls Tryz.prog 99 #[.int .i64 n,.int .i64 d] w fun e w'=>e=.returned (.tuple #[fracV ((n:Rat) / (d:Rat)),.int .i64 0])∧Below w.heap.size w w':=by
 have h1:=fracInt_any n hn0 hn1
 have h2:=fracInt_any d hd0 hd1
 have hz:∀ z:Int,-9223372036854775808≤z→z<9223372036854775808→SzK 64 (z:Rat):=fun z h1 h2=>by
  constructor
  ·rw[Rat.num_intCast]
   have:(2:Nat) ^ 64=18446744073709551616:=by decide
   omega
  ·rw[Rat.den_intCast];decide
 have h3:=fdiv_any (n:Rat) (d:Rat) (fun h=>hd (Rat.intCast_eq_zero_iff.1 h)) (hz n hn0 hn1) (hz d hd0 hd1) (by decide)
 clear hn0 hn1 hd0 hd1 hd hz
 go_enter Tryz.func99,Tryz.ntmps99
 go_wp2_with fail
 (refine(h1 _).mono ?_;rintro e w' ⟨rfl,hb⟩;have h:=tsz ((In.self _).call hb);clear hb;have hc:=h.cell;have hf:=h.frozen)
 go_wp2_with fail
 (refine(h2 _).mono ?_;rintro e w' ⟨rfl,hb⟩;replace h:=In.call tin hb;clear hb hc hf;have hc:=h.cell;have hf:=h.frozen)
 go_wp2_with fail
 (refine(h3 _).mono ?_;rintro e w' ⟨rfl,hb⟩;replace h:=In.call tin hb;clear hb hc hf;have hc:=h.cell;have hf:=h.frozen)
 go_wp2_with fail
 exact bodyPost_ret (v:=.tuple #[fracV ((n:Rat) / (d:Rat)),.int .i64 0]) (by simp[results,Tryz.results99,go_sem,hc]) rfl ⟨rfl,by exact tfin⟩
end Gus
end
section
namespace Gus
open Go Go.RowKit Go.Proofs
def qOf (n d:Int):Rat:=(n:Rat) / ((max d 1:Int):Rat)
set_option maxRecDepth 100000 in
set_option maxHeartbeats 1000000 in
theorem qOf_any (n d:Int) (hn0:-9223372036854775808≤n) (hn1:n<9223372036854775808) (hd0:0≤d) (hd1:d<4294967296) (w:World) :
  Calls Tryz.prog 45 #[.agg #[.int .i64 n,.int .u32 d]] w fun e w'=>e=.returned (fracV (qOf n d))∧Below w.heap.size w w':=by
 have h1:=fracOf_any n (max d 1) hn0 hn1 (by omega) (by omega) (by omega)
 unfold qOf
 obtain⟨q,hq⟩:∃ q,q=(n:Rat) / ((max d 1:Int):Rat):=⟨_,rfl⟩
 rw[←hq] at h1 ⊢
 have hw1:IntKind.i64.wrap (max d 1)=max d 1:=IntWalk.i64_in _ (by omega)
 clear hq
 go_enter Tryz.func45,Tryz.ntmps45
 go_wp2_with fail
 (((with_reducible refine(h1 _).mono ?_));rintro e w' ⟨rfl,hb⟩;have h:=tsz ((In.self _).call hb);clear hb;have hc:=h.cell;have hf:=h.frozen)
 have hz0:w.heap.size<w'.heap.size:=(by have:=h.siz;omega);have hz1:w.heap.size+1<w'.heap.size:=(by have:=h.siz;omega)
 go_wp2_with fail
 exact bodyPost_ret (v:=fracV q) (by simp[results,Tryz.results45,go_sem, *]) rfl ⟨rfl,by exact tfin⟩
theorem has_any (i n:Int) (w:World) :
  Calls Tryz.prog 105 #[.int .i64 i,.int .i64 n] w fun e w'=>e=.returned (.bool (decide (0≤i) && decide (i<n)))∧Below w.heap.size w w':=by
 by_cases h0:0≤i
 ·have e:(decide (0≤i) && decide (i<n))=decide (i<n):=by rw[decide_eq_true h0,Bool.true_and]
  rw[e]
  clear e
  go_enter Tryz.func105,Tryz.ntmps105
  go_wp2_with fail
  go_ret
  exact⟨rfl,by exact tfin⟩
 ·have e:(decide (0≤i) && decide (i<n))=false:=by rw[decide_eq_false h0,Bool.false_and]
  rw[e]
  clear e
  go_enter Tryz.func105,Tryz.ntmps105
  go_wp2_with fail
  go_ret
  exact⟨rfl,by exact tfin⟩
def sidesE (n m:Int):Int:=if n<0∨m<0 then 1 else if 2048<n∨2048<m then 3 else 0
set_option maxRecDepth 100000 in
set_option maxHeartbeats 1000000 in
theorem sides_any (n m:Int) (w:World) :
  Calls Tryz.prog 44 #[.int .i64 n,.int .i64 m] w fun e w'=>e=.returned (.int .i64 (sidesE n m))∧Below w.heap.size w w':=by
 unfold sidesE
 by_cases h1:n<0 <;> by_cases h2:m<0 <;> by_cases h3:2048<n <;> by_cases h4:2048<m <;> simp only[h1,h2,h3,h4,or_true,or_false,if_true,if_false,or_self]
 all_goals
  go_enter Tryz.func44,Tryz.ntmps44
  go_wp2_with fail
  go_ret
  exact⟨rfl,by exact tfin⟩
end Gus
end
section
namespace Gus
open Go Go.RowKit Go.Proofs
theorem place_keyed:Maps.Keyed Tryz.prog 178:=
 Maps.Keyed.of_law (deep_law_gate (by kernel_rfl) (Nat.le_of_ble_eq_true (by kernel_rfl)) (Nat.le_of_ble_eq_true (by kernel_rfl)) (by kernel_rfl) (by kernel_rfl))
abbrev posV (i k:Int):Value:=.agg #[.int .i64 i,.int .i64 k]
def posL (i k:Int):Lit:=.string (keyBytes [.int .i64 i,.int .i64 k])
theorem wf64 {i:Int} (h0:-9223372036854775808≤i) (h1:i<9223372036854775808):(Lit.int .i64 i).wf=true:=by
 simp[Lit.wf,IntKind.min,IntKind.max,IntKind.signed,IntKind.bits];omega
theorem keyLits_int {P:Program} {d t:Nat} (ht:P.underlying t=some (.int .i64)) {i:Int} (hw:(Lit.int .i64 i).wf=true):P.keyLits (d+1) t [.int .i64 i]=some [.int .i64 i]:=by
 unfold Program.keyLits
 simp[ht,hw]
theorem keyLits_int_inv {P:Program} {d t:Nat} (ht:P.underlying t=some (.int .i64)) {c:Value} {ls:List Lit} (h:P.keyLits (d+1) t [c]=some ls):∃ i,c=.int .i64 i∧ls=[.int .i64 i]∧(Lit.int .i64 i).wf=true:=by
 unfold Program.keyLits at h
 rw[ht] at h
 cases c <;> simp at h
 obtain⟨⟨rfl,hw⟩,rfl⟩:=h
 exact⟨_,rfl,rfl,hw⟩
theorem place_cells:Tryz.prog.cellsOf 178=2:=by kernel_rfl
theorem int_cells:Tryz.prog.cellsOf 3=1:=by kernel_rfl
theorem place_key:Tryz.prog.keyType 178=true:=by kernel_rfl
theorem types_pos:∃ d,Tryz.prog.types.size=d+1:=⟨Tryz.prog.types.size - 1,(Nat.sub_add_cancel (Nat.le_of_ble_eq_true (by kernel_rfl))).symm⟩
theorem posL_of {i k:Int} (hi:(Lit.int .i64 i).wf=true) (hk:(Lit.int .i64 k).wf=true):keyOf Tryz.prog 178 (posV i k)=some (posL i k):=by
 obtain⟨d,hd⟩:=types_pos
 have h1:=keyLits_int (d:=d) Tryz.underlying3 hi
 have h2:=keyLits_int (d:=d) Tryz.underlying3 hk
 have hf:(posV i k).formed Tryz.prog 178=true:=by
  simp[Value.formed,Tryz.underlying178,place_cells]
 unfold keyOf
 rw[Tryz.underlying178]
 simp only[place_key,hf,Bool.and_self,if_true]
 rw[show Tryz.prog.keyLits (Tryz.prog.types.size+1) 178 (posV i k).cells.toList=some [.int .i64 i,.int .i64 k] by
  unfold Program.keyLits
  rw[Tryz.underlying178,hd]
  simp[Value.cells,place_cells,int_cells,h1,h2]]
 rfl
theorem list_two {α:Type}:∀ {l:List α},l.length=2→∃ a b,l=[a,b]
 | [a,b],_=>⟨a,b,rfl⟩
theorem keyOf_struct_inv {P:Program} {k:TypeId} {fs:Array Field} {v:Value} {l:Lit} (hu:P.underlying k=some (.struct fs)) (h:keyOf P k v=some l) :
  v.formed P k=true∧∃ ls,P.keyLits (P.types.size+1) k v.cells.toList=some ls∧l=.string (keyBytes ls):=by
 unfold keyOf at h
 rw[hu] at h
 simp only at h
 split at h
 ·rename_i hf
  rw[Bool.and_eq_true] at hf
  obtain⟨ls,h1,h2⟩:=Option.map_eq_some_iff.1 h
  exact⟨hf.2,ls,h1,h2.symm⟩
 ·cases h
theorem formed_two {P:Program} {k:TypeId} {fs:Array Field} {v:Value} (hu:P.underlying k=some (.struct fs)) (hc:P.cellsOf k=2) (h:v.formed P k=true):∃ c0 c1,v=.agg #[c0,c1]:=by
 cases v <;> simp[Value.formed,hu,hc] at h
 rename_i cs
 obtain⟨c0,c1,hcs⟩:=list_two (l:=cs.toList) (by simpa using h)
 exact⟨c0,c1,by rw[←hcs]⟩
theorem keyLits_two {P:Program} {k t d:Nat} {f0 f1:Field} {c0 c1:Value} {ls:List Lit} (hu:P.underlying k=some (.struct #[f0,f1])) (h0:f0.type=t) (h1:f1.type=t) (ho0:f0.offset=0) (ho1:f1.offset=1) (ht:P.underlying t=some (.int .i64)) (hct:P.cellsOf t=1)
  (h:P.keyLits (d+1+1) k [c0,c1]=some ls):∃ i j,c0=.int .i64 i∧c1=.int .i64 j∧ls=[.int .i64 i,.int .i64 j]∧(Lit.int .i64 i).wf=true∧(Lit.int .i64 j).wf=true:=by
 unfold Program.keyLits at h
 rw[hu] at h
 simp only at h
 split at h
 ·obtain⟨l2,hl2,rfl⟩:=Option.map_eq_some_iff.1 h
  simp only[List.mapM_cons,List.mapM_nil,h0,h1,ho0,ho1,hct,List.drop_zero,List.drop_succ_cons,List.take_succ_cons,List.take_zero,List.take_nil,Option.bind_eq_bind,Option.pure_def,Option.bind_eq_some_iff,Option.some.injEq] at hl2
  obtain⟨a,ha,b,⟨b2,hb2,c,hc2,rfl⟩,rfl⟩:=hl2
  obtain⟨i,rfl,rfl,hwi⟩:=keyLits_int_inv ht ha
  obtain⟨j,rfl,rfl,hwj⟩:=keyLits_int_inv ht hb2
  subst hc2
  exact⟨i,j,rfl,rfl,rfl,hwi,hwj⟩
 ·cases h
theorem posL_inv {v:Value} {l:Lit} (h:keyOf Tryz.prog 178 v=some l):∃ i k:Int,v=posV i k∧l=posL i k∧(Lit.int .i64 i).wf=true∧(Lit.int .i64 k).wf=true:=by
 obtain⟨hf,ls,hls,rfl⟩:=keyOf_struct_inv Tryz.underlying178 h
 obtain⟨c0,c1,rfl⟩:=formed_two Tryz.underlying178 place_cells hf
 obtain⟨d,hd⟩:=types_pos
 rw[hd] at hls
 obtain⟨i,j,rfl,rfl,rfl,hi,hj⟩:=keyLits_two (t:=3) Tryz.underlying178 rfl rfl rfl rfl Tryz.underlying3 int_cells hls
 exact⟨i,j,rfl,rfl,hi,hj⟩
theorem bg_inj {m n:Nat} (h1:lo m=lo n) (h2:bg m=bg n):m=n:=(nat_eq_iff m n).1 ⟨h1,by rw[h2]⟩
theorem fracV_inj {p q:Rat} (h:fracV p=fracV q):p=q:=by
 simp only[fracV,Value.agg.injEq] at h
 have h':=congrArg Array.toList h
 simp only[List.cons.injEq,Value.int.injEq,Value.string.injEq,Value.bool.injEq,true_and,and_true,decide_eq_decide] at h'
 obtain⟨h1,h2,h3,h4,h5⟩:=h'
 have hn:=bg_inj h1 h2
 have hd:=bg_inj h4 h5
 have:=p.den_pos;have:=q.den_pos
 refine Rat.ext ?_ (by omega)
 by_cases hp:p.num<0
 ·have:=h3.1 hp;omega
 ·have:¬ q.num<0:=fun h=>hp (h3.2 h)
  omega
open Classical in
noncomputable def Rf (v:Value):Option (DataW Rat×List MemPlace):=if h:∃ q,v=fracV q then some (.held (Classical.choose h),[]) else none
theorem Rf_frac (q:Rat):Rf (fracV q)=some (.held q,[]):=by
 have h:∃ p,fracV q=fracV p:=⟨q,rfl⟩
 unfold Rf
 rw[dif_pos h,←fracV_inj (Classical.choose_spec h)]
theorem Rf_inv {v:Value} {y:DataW Rat×List MemPlace} (h:Rf v=some y):∃ q,v=fracV q∧y=(.held q,[]):=by
 by_cases hv:∃ q,v=fracV q
 ·obtain⟨q,rfl⟩:=hv
  rw[Rf_frac] at h
  cases h;exact⟨q,rfl,rfl⟩
 ·unfold Rf at h;rw[dif_neg hv] at h;cases h
def setF (f:Nat→Nat→Rat) (i k:Nat) (q:Rat):Nat→Nat→Rat:=fun a b=>if a=i∧b=k then q else f a b
theorem setF_same (f:Nat→Nat→Rat) (i k:Nat) (q:Rat):setF f i k q i k=q:=by unfold setF;rw[if_pos ⟨rfl,rfl⟩]
theorem setF_ne (f:Nat→Nat→Rat) {i k a b:Nat} (q:Rat) (h:¬ (a=i∧b=k)):setF f i k q a b=f a b:=by unfold setF;rw[if_neg h]
theorem posL_inj {i k i' k':Nat} (h:i<2048) (h2:k<2048) (h':i'<2048) (h2':k'<2048) (e:posL i k=posL i' k'):i=i'∧k=k':=by
 have e1:=posL_of (i:=(i:Int)) (k:=(k:Int)) (wf64 (by omega) (by omega)) (wf64 (by omega) (by omega))
 have e2:=posL_of (i:=(i':Int)) (k:=(k':Int)) (wf64 (by omega) (by omega)) (wf64 (by omega) (by omega))
 rw[e] at e1
 have:=place_keyed.inj e1 e2
 simp only[posV,Value.agg.injEq] at this
 have h3:=congrArg Array.toList this
 simp only[List.cons.injEq,Value.int.injEq,true_and,and_true] at h3
 omega
def BM (w:World) (b n N M:Nat) (f:Nat→Nat→Rat):Prop:=
 ∃ D,w.ownsMap Tryz.prog 178 Rf b n D∧Maps.IsMap D∧(∀ i k,i<N→k<M→D.atKey (posL i k) (.held 0)=.held (f i k))∧(∀ i k,i<N→k<M→(Maps.has D (posL i k)=true↔f i k≠0)) ∧
  ∀ l,Maps.has D l=true→∃ i k:Nat,i<N∧k<M∧l=posL i k
theorem BM.new (w:World) (N M:Nat):BM (w.alloc (.map #[] 0)) w.heap.size 0 N M (fun _ _=>0):=
 ⟨.map [],World.ownsMap_made w _ _ _,Maps.isMap_empty,fun _ _ _ _=>rfl,fun _ _ _ _=>by simp[Maps.has],fun l h=>by simp[Maps.has] at h⟩
section
variable {w w':World} {b n N M:Nat} {f:Nat→Nat→Rat}
theorem BM.lt (h:BM w b n N M f):b<w.heap.size:=let ⟨_,h1,_⟩:=h;h1.lt
theorem BM.of_block (h:BM w b n N M f) (hb:w'.heap[b]?=w.heap[b]?):BM w' b n N M f:=by
 obtain⟨D,⟨es,clock,h1,h2,h3,h4⟩,hr⟩:=h
 exact⟨D,⟨es,clock,hb.trans h1,h2,h3,h4⟩,hr⟩
theorem BM.below {B:Nat} (h:BM w b n N M f) (hb:Below B w w') (hB:b<B):BM w' b n N M f:=h.of_block (hb.block b hB)
theorem BM.call (h:BM w b n N M f) (hb:Below w.heap.size w w'):BM w' b n N M f:=h.below hb h.lt
theorem BM.other {a:Addr} (h:BM w b n N M f) (hne:a.block≠b) (v:Value):BM (w.setCell a v) b n N M f:=h.of_block (heap_setCell_other w a b v (Ne.symm hne))
theorem BM.alloc (h:BM w b n N M f) (o:Obj):BM (w.alloc o) b n N M f:=h.of_block (Below.heap_alloc w o b h.lt)
theorem BM.drew (h:BM w b n N M f):BM w.drew b n N M f:=h
theorem BM.ext {g:Nat→Nat→Rat} (h:BM w b n N M f) (hg:∀ i k,i<N→k<M→g i k=f i k):BM w b n N M g:=by
 obtain⟨D,h1,h2,h3,h4,h5⟩:=h
 exact⟨D,h1,h2,fun i k hi hk=>by rw[h3 i k hi hk,hg i k hi hk],fun i k hi hk=>by rw[h4 i k hi hk,hg i k hi hk],h5⟩
theorem posL_at {i k:Nat} (hi:i<2048) (hk:k<2048):keyOf Tryz.prog 178 (posV i k)=some (posL i k):=posL_of (wf64 (by omega) (by omega)) (wf64 (by omega) (by omega))
theorem zeroFrac (w:World):(zeroValue 72).run Tryz.prog w=.ok (fracV 0) w:=Tryz.zeroValue72 w
theorem BM.lookup (h:BM w b n N M f) (hN:N≤2048) (hM:M≤2048) {i k:Nat} (hi:i<N) (hk:k<M):(Instr.lookup 174 (.map (some b)) (posV i k) false).run Tryz.prog w=.ok (fracV (f i k)) w:=by
 obtain⟨D,h1,h2,h3,h4,h5⟩:=h
 obtain⟨v,ps,hr,hv⟩:=h1.lookup place_keyed Tryz.underlying174 (zeroFrac w) (Rf_frac 0) (posL_at (show i<2048 by omega) (show k<2048 by omega))
 rw[h3 i k hi hk] at hv
 obtain⟨q,rfl,hq⟩:=Rf_inv hv
 cases hq
 exact hr
theorem BM.update (h:BM w b n N M f) (hN:N≤2048) (hM:M≤2048) {i k:Nat} (hi:i<N) (hk:k<M) {q:Rat} (hq:q≠0) (hn:n<maxLen) :
  ∃ w',(Instr.mapUpdate 174 (.map (some b)) (posV i k) (fracV q)).run Tryz.prog w=.ok () w'∧BM w' b (n+1) N M (setF f i k q)∧w.grownBy w' (some b):=by
 obtain⟨D,h1,h2,h3,h4,h5⟩:=h
 have hkey:=posL_at (show i<2048 by omega) (show k<2048 by omega)
 have hl:WideAt.IsKeyLit (posL i k):=place_keyed.key hkey
 obtain⟨w',hr,ho,hg⟩:=h1.update place_keyed Tryz.underlying174 hn hkey (Rf_frac q)
 have hne:∀ a c:Nat,a<N→c<M→¬ (a=i∧c=k)→posL a c≠posL i k:=fun a c ha hc hne he=>hne (posL_inj (by omega) (by omega) (by omega) (by omega) he)
 refine⟨w',hr,⟨_,ho,h2.put _ _,fun a c ha hc=>?_,fun a c ha hc=>?_,fun l hl'=>?_⟩,hg⟩
 ·by_cases he:a=i∧c=k
  ·obtain⟨rfl,rfl⟩:=he
   rw[Maps.atKey_put_same h2 hl,setF_same]
  ·rw[Maps.atKey_put_other (hne a c ha hc he),h3 a c ha hc,setF_ne _ _ he]
 ·by_cases he:a=i∧c=k
  ·obtain⟨rfl,rfl⟩:=he
   rw[Maps.has_put_same h2 hl,setF_same];simp[hq]
  ·rw[Maps.has_put_other (hne a c ha hc he),h4 a c ha hc,setF_ne _ _ he]
 ·by_cases he:l=posL i k
  ·exact⟨i,k,hi,hk,he⟩
  ·rw[Maps.has_put_other he] at hl'
   exact h5 l hl'
theorem BM.drop (h:BM w b n N M f) (hN:N≤2048) (hM:M≤2048) {i k:Nat} (hi:i<N) (hk:k<M) (ty:TypeId) :
  ∃ w',(Builtin.delete_ #[174,178] ty #[.map (some b),posV i k]).run Tryz.prog w=.ok (.tuple #[]) w'∧BM w' b n N M (setF f i k 0)∧w.mapTurned w' b:=by
 obtain⟨D,h1,h2,h3,h4,h5⟩:=h
 have hkey:=posL_at (show i<2048 by omega) (show k<2048 by omega)
 obtain⟨w',hr,ho,hg⟩:=h1.drop place_keyed Tryz.underlying174 hkey ty
 have hne:∀ a c:Nat,a<N→c<M→¬ (a=i∧c=k)→posL a c≠posL i k:=fun a c ha hc hne he=>hne (posL_inj (by omega) (by omega) (by omega) (by omega) he)
 refine⟨w',hr,⟨_,ho,h2.del _,fun a c ha hc=>?_,fun a c ha hc=>?_,fun l hl'=>?_⟩,hg⟩
 ·by_cases he:a=i∧c=k
  ·obtain⟨rfl,rfl⟩:=he
   rw[Maps.atKey_del_same,setF_same]
  ·rw[Maps.atKey_del_other (hne a c ha hc he),h3 a c ha hc,setF_ne _ _ he]
 ·by_cases he:a=i∧c=k
  ·obtain⟨rfl,rfl⟩:=he
   rw[Maps.has_del_same,setF_same];simp
  ·rw[Maps.has_del_other (hne a c ha hc he),h4 a c ha hc,setF_ne _ _ he]
 ·by_cases he:l=posL i k
  ·rw[he,Maps.has_del_same] at hl';cases hl'
  ·rw[Maps.has_del_other he] at hl'
   exact h5 l hl'
end
end Gus
end
