/- Proved here: parts of the proof: KIntB KFrac. Conditions: those that each theorem states. -/
import Derived.Test.YthblojaeoiemmaaGreatDoorKNatMQ
section
namespace Gus
open Go Go.RowKit Go.Proofs
set_option maxRecDepth 100000 in
set_option maxHeartbeats 1000000 in
theorem plus_same (a b:Int) (ha:Wl a.natAbs) (hb:Wl b.natAbs) (p:Bool) (hp:decide (a<0)=p) (hq:decide (b<0)=p) (w:World) :
  Calls Tryz.prog 158 #[intV a,intV b] w fun e w'=>e=.returned (intV (a+b))∧Below w.heap.size w w':=by
 have hs:=sgn_add_same hp hq
 have hA:=add_any a.natAbs b.natAbs ha hb
 have hF:=from_any p (a.natAbs+b.natAbs)
 rw[hs] at hF
 rw[intV,intV,hp,hq]
 clear hs hp hq ha hb
 go_enter Tryz.func158,Tryz.ntmps158
 go_wp2_with fail
 refine wp_region_tail (In _ _) 10 (by kernel_rfl) (by kernel_rfl) (In.drew (In.self _)) ?_;simp only[List.take_succ_cons,List.take_zero,List.drop_succ_cons,List.drop_zero];(repeat (first | refine tqs ?_ |((first |((with_reducible refine wpQuiet_run0 (v:=?_) ?_ ?_ ?_);rotate_left 1;exact trr)|((with_reducible refine wpQuiet_rung (v:=?_) (j:=?_) (b:=?_) ?_ ?_ ?_ ?_);rotate_left 3;exact trr;exact trf));(focus (intro w' hw';(try simp only[World.size_alloc] at hw');go_simp;first |(go_at_call 143;refine(hA _).mono ?_;rintro e w'' ⟨rfl,hb⟩;refine⟨?_,hw'.call hb⟩;exact rfl)|(go_at_call 139;refine(hF _).mono ?_;rintro e w'' ⟨rfl,hb⟩;refine⟨?_,hw'.call hb⟩;exact rfl)));refine tput ?_)| fail));refine wpQuiet_nil ?_;(try clear hc hf h);intro w' h;replace h:=tsz h;have hc:=h.cell;have hf:=h.frozen
 go_wp2_with fail
 exact bodyPost_ret (v:=intV (a+b)) (by simp[results,Tryz.results158,go_sem, *]) rfl ⟨rfl,by exact tfin⟩
set_option maxRecDepth 100000 in
set_option maxHeartbeats 1000000 in
theorem plus_ge (a b:Int) (ha:Wl a.natAbs) (hb:Wl b.natAbs) (p:Bool) (hp:decide (a<0)=p) (hq:decide (b<0)=!p) (h:b.natAbs≤a.natAbs) (w:World) :
  Calls Tryz.prog 158 #[intV a,intV b] w fun e w'=>e=.returned (intV (a+b))∧Below w.heap.size w w':=by
 have hs:=sgn_sub_ge hp hq h
 have hA:=sub_ge a.natAbs b.natAbs h ha hb
 have hF:=from_any p (a.natAbs - b.natAbs)
 rw[hs] at hF
 rw[intV,intV,hp,hq]
 clear hs hp hq ha hb
 obtain⟨q,hq⟩:∃ q,q=!p:=⟨_,rfl⟩
 have hpq:(p == q)=false:=by subst hq;cases p <;> rfl
 rw[←hq]
 clear hq h
 go_enter Tryz.func158,Tryz.ntmps158
 go_wp2_with fail
 (refine(hA _).mono ?_;rintro e w' ⟨rfl,hb⟩;have h:=tsz ((In.self _).call hb);clear hb;have hc:=h.cell;have hf:=h.frozen)
 have hz0:w.heap.size<w'.heap.size:=(by have:=h.siz;omega);have hz1:w.heap.size+1<w'.heap.size:=(by have:=h.siz;omega);have hz2:w.heap.size+1+1<w'.heap.size:=(by have:=h.siz;omega)
 go_wp2_with fail
 (refine(hF _).mono ?_;rintro e w' ⟨rfl,hb⟩;replace h:=In.call tin hb;clear hb hc hf;have hc:=h.cell;have hf:=h.frozen)
 go_wp2_with fail
 exact bodyPost_ret (v:=intV (a+b)) (by simp[results,Tryz.results158,go_sem, *]) rfl ⟨rfl,by exact tfin⟩
set_option maxRecDepth 100000 in
set_option maxHeartbeats 1000000 in
theorem plus_lt (a b:Int) (ha:Wl a.natAbs) (hb:Wl b.natAbs) (p:Bool) (hp:decide (a<0)=p) (hq:decide (b<0)=!p) (h:a.natAbs<b.natAbs) (w:World) :
  Calls Tryz.prog 158 #[intV a,intV b] w fun e w'=>e=.returned (intV (a+b))∧Below w.heap.size w w':=by
 have hs:=sgn_sub_ge (p:=!p) hq (by rw[hp,Bool.not_not]) (Nat.le_of_lt h)
 have hA:=sub_lt a.natAbs b.natAbs h ha hb
 have hB:=sub_ge b.natAbs a.natAbs (Nat.le_of_lt h) hb ha
 obtain⟨q,hqq⟩:∃ q,q=!p:=⟨_,rfl⟩
 have hpq:(p == q)=false:=by subst hqq;cases p <;> rfl
 rw[←hqq] at hs hq
 have hF:=from_any q (b.natAbs - a.natAbs)
 rw[hs,Int.add_comm] at hF
 rw[intV,intV,hp,hq]
 clear hs hp hq ha hb hqq h
 go_enter Tryz.func158,Tryz.ntmps158
 go_wp2_with fail
 (refine(hA _).mono ?_;rintro e w' ⟨rfl,hb⟩;have h:=tsz ((In.self _).call hb);clear hb;have hc:=h.cell;have hf:=h.frozen)
 have hz0:w.heap.size<w'.heap.size:=(by have:=h.siz;omega);have hz1:w.heap.size+1<w'.heap.size:=(by have:=h.siz;omega);have hz2:w.heap.size+1+1<w'.heap.size:=(by have:=h.siz;omega)
 go_wp2_with fail
 (refine(hB _).mono ?_;rintro e w' ⟨rfl,hb⟩;replace h:=In.call tin hb;clear hb hc hf;have hc:=h.cell;have hf:=h.frozen)
 clear hz0 hz1 hz2
 have hz0:w.heap.size<w'.heap.size:=(by have:=h.siz;omega);have hz1:w.heap.size+1<w'.heap.size:=(by have:=h.siz;omega);have hz2:w.heap.size+1+1<w'.heap.size:=(by have:=h.siz;omega)
 go_wp2_with fail
 (refine(hF _).mono ?_;rintro e w' ⟨rfl,hb⟩;replace h:=In.call tin hb;clear hb hc hf;have hc:=h.cell;have hf:=h.frozen)
 go_wp2_with fail
 exact bodyPost_ret (v:=intV (a+b)) (by simp[results,Tryz.results158,go_sem, *]) rfl ⟨rfl,by exact tfin⟩
theorem plus_any (a b:Int) (ha:Wl a.natAbs) (hb:Wl b.natAbs) (w:World) :
  Calls Tryz.prog 158 #[intV a,intV b] w fun e w'=>e=.returned (intV (a+b))∧Below w.heap.size w w':=by
 by_cases hs:decide (b<0)=decide (a<0)
 ·exact plus_same a b ha hb _ rfl hs w
 ·have hs':decide (b<0)=!decide (a<0):=by
   cases h1:decide (b<0) <;> cases h2:decide (a<0) <;> simp[h1,h2] at hs ⊢
  by_cases h:b.natAbs≤a.natAbs
  ·exact plus_ge a b ha hb _ rfl hs' h w
  ·exact plus_lt a b ha hb _ rfl hs' (by omega) w
set_option maxRecDepth 100000 in
set_option maxHeartbeats 1000000 in
theorem times_any (a b:Int) (ha:Wl a.natAbs) (hb:Wl b.natAbs) (w:World) :
  Calls Tryz.prog 133 #[intV a,intV b] w fun e w'=>e=.returned (intV (a*b))∧Below w.heap.size w w':=by
 have hs:=sgn_mul (a:=a) (b:=b)
 have hA:=mul_any a.natAbs b.natAbs ha hb
 obtain⟨p,hp⟩:∃ p,p=decide (a<0):=⟨_,rfl⟩
 obtain⟨q,hq⟩:∃ q,q=decide (b<0):=⟨_,rfl⟩
 rw[intV,intV,←hp,←hq]
 rw[←hp,←hq] at hs
 obtain⟨r,hr⟩:∃ r,(p != q)=r:=⟨_,rfl⟩
 rw[hr] at hs
 have hF:=from_any r (a.natAbs*b.natAbs)
 rw[hs] at hF
 clear hp hq ha hb hs
 cases p <;> cases q <;> cases r <;> first
  |(exact absurd hr (by decide))
  |(clear hr
    go_enter Tryz.func133,Tryz.ntmps133
    go_wp2_with fail
    refine wp_region_tail (In _ _) 13 (by kernel_rfl) (by kernel_rfl) (In.drew (In.self _)) ?_;simp only[List.take_succ_cons,List.take_zero,List.drop_succ_cons,List.drop_zero];(repeat (first | refine tqs ?_ |((first |((with_reducible refine wpQuiet_run0 (v:=?_) ?_ ?_ ?_);rotate_left 1;exact trr)|((with_reducible refine wpQuiet_rung (v:=?_) (j:=?_) (b:=?_) ?_ ?_ ?_ ?_);rotate_left 3;exact trr;exact trf));(focus (intro w' hw';(try simp only[World.size_alloc] at hw');go_simp;first |(go_at_call 93;refine(hA _).mono ?_;rintro e w'' ⟨rfl,hb⟩;refine⟨?_,hw'.call hb⟩;exact rfl)|(go_at_call 139;refine(hF _).mono ?_;rintro e w'' ⟨rfl,hb⟩;refine⟨?_,hw'.call hb⟩;exact rfl)));refine tput ?_)| fail));refine wpQuiet_nil ?_;(try clear hc hf h);intro w' h;replace h:=tsz h;have hc:=h.cell;have hf:=h.frozen
    go_wp2_with fail
    exact bodyPost_ret (v:=intV (a*b)) (by simp[results,Tryz.results133,go_sem, *]) rfl ⟨rfl,by exact tfin⟩)
set_option maxRecDepth 100000 in
theorem told_plus (a b:Int) (ha:Wl a.natAbs) (hb:Wl b.natAbs) (w:World) :
  Calls Tryz.prog 132 #[.func (.func 158) #[] #[],intV a,intV b] w fun e w'=>e=.returned (intV (a+b))∧Below w.heap.size w w':=by
 have hA:=plus_any a b ha hb
 clear ha hb
 go_enter Tryz.func132,Tryz.ntmps132
 go_wp2_with fail
 (refine(hA _).mono ?_;rintro e w' ⟨rfl,hb⟩;have h:=tsz ((In.self _).call hb);clear hb;have hc:=h.cell;have hf:=h.frozen)
 go_wp2_with fail
 exact bodyPost_ret (v:=intV (a+b)) (by simp[results,Tryz.results132,go_sem, *]) rfl ⟨rfl,by exact tfin⟩
set_option maxRecDepth 100000 in
theorem told_times (a b:Int) (ha:Wl a.natAbs) (hb:Wl b.natAbs) (w:World) :
  Calls Tryz.prog 132 #[.func (.func 133) #[] #[],intV a,intV b] w fun e w'=>e=.returned (intV (a*b))∧Below w.heap.size w w':=by
 have hA:=times_any a b ha hb
 clear ha hb
 go_enter Tryz.func132,Tryz.ntmps132
 go_wp2_with fail
 (refine(hA _).mono ?_;rintro e w' ⟨rfl,hb⟩;have h:=tsz ((In.self _).call hb);clear hb;have hc:=h.cell;have hf:=h.frozen)
 go_wp2_with fail
 exact bodyPost_ret (v:=intV (a*b)) (by simp[results,Tryz.results132,go_sem, *]) rfl ⟨rfl,by exact tfin⟩
set_option maxRecDepth 100000 in
theorem iadd_any (a b:Int) (ha:Wl a.natAbs) (hb:Wl b.natAbs) (w:World) :
  Calls Tryz.prog 122 #[intV a,intV b] w fun e w'=>e=.returned (intV (a+b))∧Below w.heap.size w w':=by
 have hA:=told_plus a b ha hb
 clear ha hb
 go_enter Tryz.func122,Tryz.ntmps122
 go_wp2_with fail
 (refine(hA _).mono ?_;rintro e w' ⟨rfl,hb⟩;have h:=tsz ((In.self _).call hb);clear hb;have hc:=h.cell;have hf:=h.frozen)
 go_wp2_with fail
 exact bodyPost_ret (v:=intV (a+b)) (by simp[results,Tryz.results122,go_sem, *]) rfl ⟨rfl,by exact tfin⟩
set_option maxRecDepth 100000 in
theorem imul_any (a b:Int) (ha:Wl a.natAbs) (hb:Wl b.natAbs) (w:World) :
  Calls Tryz.prog 91 #[intV a,intV b] w fun e w'=>e=.returned (intV (a*b))∧Below w.heap.size w w':=by
 have hA:=told_times a b ha hb
 clear ha hb
 go_enter Tryz.func91,Tryz.ntmps91
 go_wp2_with fail
 (refine(hA _).mono ?_;rintro e w' ⟨rfl,hb⟩;have h:=tsz ((In.self _).call hb);clear hb;have hc:=h.cell;have hf:=h.frozen)
 go_wp2_with fail
 exact bodyPost_ret (v:=intV (a*b)) (by simp[results,Tryz.results91,go_sem, *]) rfl ⟨rfl,by exact tfin⟩
end Gus
end
section
namespace Gus
open Go Go.RowKit Go.Proofs
theorem Wl_of {n i:Nat} (h:n<2 ^ i) (hi:i<17592186044416):Wl n:=by
 have h1:n<4294967296 ^ (i / 32+1):=by
  refine Nat.lt_of_lt_of_le h ?_
  rw[show(4294967296:Nat)=2 ^ 32 from rfl,←Nat.pow_mul]
  exact Nat.pow_le_pow_right (by decide) (by omega)
 have h2:=wd_length h1
 unfold Wl;omega
theorem Wl.mono {m n:Nat} (h:Wl n) (hm:m≤n):Wl m:=Nat.le_trans (wd_mono hm) h
theorem SzK.num {i:Nat} {q:Rat} (h:SzK i q) (hi:i<17592186044416):Wl q.num.natAbs:=Wl_of h.1 hi
theorem SzK.dn {i:Nat} {q:Rat} (h:SzK i q) (hi:i<17592186044416):Wl q.den:=Wl_of h.2 hi
theorem Wl_one:Wl 1:=Wl_of (i:=1) (by decide) (by decide)
theorem fracV_int (z:Int):fracV (z:Rat)=.agg #[.int .u64 (lo z.natAbs),.string (bg z.natAbs),.bool (decide (z<0)),.int .u64 0,.string ⟨#[]⟩]:=by
 rw[fracV,Rat.num_intCast,Rat.den_intCast];rfl
theorem whole_any (z:Int) (w:World) :
  Calls Tryz.prog 90 #[intV z] w fun e w'=>e=.returned (fracV (z:Rat))∧Below w.heap.size w w':=by
 rw[fracV_int]
 go_enter Tryz.func90,Tryz.ntmps90
 go_wp2_with fail
 exact bodyPost_ret (v:=.agg #[.int .u64 (lo z.natAbs),.string (bg z.natAbs),.bool (decide (z<0)),.int .u64 0,.string ⟨#[]⟩]) (by simp[results,Tryz.results90,go_sem, *]) rfl ⟨rfl,by exact tfin⟩
set_option maxRecDepth 100000 in
theorem fden_any (q:Rat) (hq:Wl q.den) (w:World) :
  Calls Tryz.prog 94 #[fracV q] w fun e w'=>e=.returned (natV q.den)∧Below w.heap.size w w':=by
 have h0:=natOf_any 1 (by decide) (by decide)
 have h1:=add_any (q.den - 1) 1 (hq.mono (Nat.sub_le _ _)) Wl_one
 rw[show q.den - 1+1=q.den from Nat.sub_add_cancel q.den_pos] at h1
 rw[show(1:Int).toNat=1 from rfl] at h0
 clear hq
 go_enter Tryz.func94,Tryz.ntmps94
 go_wp2_with fail
 refine wp_region_tail (In _ _) 4 (by kernel_rfl) (by kernel_rfl) (In.drew (In.self _)) ?_;simp only[List.take_succ_cons,List.take_zero,List.drop_succ_cons,List.drop_zero];(repeat (first | refine tqs ?_ |((first |((with_reducible refine wpQuiet_run0 (v:=?_) ?_ ?_ ?_);rotate_left 1;exact trr)|((with_reducible refine wpQuiet_rung (v:=?_) (j:=?_) (b:=?_) ?_ ?_ ?_ ?_);rotate_left 3;exact trr;exact trf));(focus (intro w' hw';(try simp only[World.size_alloc] at hw');go_simp;first |(go_at_call 138;refine(h0 _).mono ?_;rintro e w'' ⟨rfl,hb⟩;refine⟨?_,hw'.call hb⟩;exact rfl)|(go_at_call 143;refine(h1 _).mono ?_;rintro e w'' ⟨rfl,hb⟩;refine⟨?_,hw'.call hb⟩;exact rfl)));refine tput ?_)| fail));refine wpQuiet_nil ?_;(try clear hc hf h);intro w' h;replace h:=tsz h;have hc:=h.cell;have hf:=h.frozen
 go_wp2_with fail
 exact bodyPost_ret (v:=natV q.den) (by simp[results,Tryz.results94,go_sem, *]) rfl ⟨rfl,by exact tfin⟩
set_option maxRecDepth 100000 in
theorem signed_any (q:Rat) (hq:Wl q.den) (w:World) :
  Calls Tryz.prog 123 #[fracV q] w fun e w'=>e=.returned (intV (q.den:Int))∧Below w.heap.size w w':=by
 have h0:=fden_any q hq
 have h1:=from_any false q.den
 rw[show sgn false q.den=(q.den:Int) by unfold sgn;simp] at h1
 clear hq
 go_enter Tryz.func123,Tryz.ntmps123
 go_wp2_with fail
 (refine(h0 _).mono ?_;rintro e w' ⟨rfl,hb⟩;have h:=tsz ((In.self _).call hb);clear hb;have hc:=h.cell;have hf:=h.frozen)
 go_wp2_with fail
 (refine(h1 _).mono ?_;rintro e w' ⟨rfl,hb⟩;replace h:=In.call tin hb;clear hb hc hf;have hc:=h.cell;have hf:=h.frozen)
 go_wp2_with fail
 exact bodyPost_ret (v:=intV (q.den:Int)) (by simp[results,Tryz.results123,go_sem, *]) rfl ⟨rfl,by exact tfin⟩
set_option maxRecDepth 100000 in
theorem isWhole_any (q:Rat) (w:World) :
  Calls Tryz.prog 89 #[fracV q] w fun e w'=>e=.returned (.bool (decide (q.den=1)))∧Below w.heap.size w w':=by
 have hz:=natEq0_run (q.den - 1)
 have hd:decide (q.den - 1=0)=decide (q.den=1):=by
  have:=q.den_pos
  rw[decide_eq_decide];omega
 rw[hd] at hz
 clear hd
 go_enter Tryz.func89,Tryz.ntmps89
 go_wp2_with fail
 go_ret
 exact⟨rfl,by exact tfin⟩
set_option maxRecDepth 100000 in
theorem fsign_any (q:Rat) (w:World) :
  Calls Tryz.prog 30 #[fracV q] w fun e w'=>e=.returned (.int .i64 (isign q.num))∧Below w.heap.size w w':=by
 have h0:=isign_any q.num
 go_enter Tryz.func30,Tryz.ntmps30
 go_wp2_with fail
 (refine(h0 _).mono ?_;rintro e w' ⟨rfl,hb⟩;have h:=tsz ((In.self _).call hb);clear hb;have hc:=h.cell;have hf:=h.frozen)
 go_wp2_with fail
 go_ret
 exact⟨rfl,by exact tfin⟩
set_option maxRecDepth 100000 in
theorem fracInt_any (x:Int) (h0:-9223372036854775808≤x) (h1:x<9223372036854775808) (w:World) :
  Calls Tryz.prog 96 #[.int .i64 x] w fun e w'=>e=.returned (fracV (x:Rat))∧Below w.heap.size w w':=by
 have ha:=intOf_any x h0 h1
 have hb:=whole_any x
 clear h0 h1
 go_enter Tryz.func96,Tryz.ntmps96
 go_wp2_with fail
 (refine(ha _).mono ?_;rintro e w' ⟨rfl,hb⟩;have h:=tsz ((In.self _).call hb);clear hb;have hc:=h.cell;have hf:=h.frozen)
 go_wp2_with fail
 (refine(hb _).mono ?_;rintro e w' ⟨rfl,hb⟩;replace h:=In.call tin hb;clear hb hc hf;have hc:=h.cell;have hf:=h.frozen)
 go_wp2_with fail
 exact bodyPost_ret (v:=fracV (x:Rat)) (by simp[results,Tryz.results96,go_sem, *]) rfl ⟨rfl,by exact tfin⟩
end Gus
end
