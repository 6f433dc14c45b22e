/- Proved here: parts of the proof: KSrpA. Conditions: those that each theorem states. -/
import Derived.Test.YthblojaeoiemmaaGreatDoorKSrtQ
section
namespace Gus
open Go Go.RowKit Go.Proofs
theorem sidesE_self (n:Int):sidesE n n=if n<0 then 1 else if 2048<n then 3 else 0:=by
 unfold sidesE
 simp only[or_self]
theorem outW_of (n:Int) (xs:List Int):outW n xs=if sidesE n n=0∧¬ allDif n xs=true then 1 else sidesE n n:=by
 rw[sidesE_self]
 unfold outW
 by_cases h1:n<0
 ·simp[h1]
 ·by_cases h2:2048<n
  ·simp[h1,h2]
  ·by_cases h3:allDif n xs=true <;> simp[h1,h2,h3]
theorem oneE_of (n m:Int) (xs:List Int):oneE n m xs=if sqE n m=0∧¬ allDif n xs=true then 1 else sqE n m:=by
 unfold oneE
 by_cases h1:sqE n m=0
 ·rw[if_neg (fun g=>g h1)]
  by_cases h3:allDif n xs=true
  ·rw[if_pos h3,if_neg (fun g=>g.2 h3),h1]
  ·rw[if_neg h3,if_pos ⟨h1,h3⟩]
 ·rw[if_pos h1,if_neg (fun g=>h1 g.1)]
theorem bool_ne {b:Bool} (h:¬ b=true):b=false:=by cases b;rfl;exact absurd rfl h
set_option maxRecDepth 100000 in
set_option maxHeartbeats 16000000 in
def errors21_any_q1:{P:Prop // P→∀ (w:World) (n m:Int) (_:-9223372036854775808≤n∧n<9223372036854775808) (_:-9223372036854775808≤m∧m<9223372036854775808) (xa ya:Option Addr) (xc yc:Nat) (xs ys:List Int) (_:IntsAt w xa xs) (_:IntsAt w ya ys) (_:∀ i∈xs,-9223372036854775808≤i∧i<9223372036854775808) (_:∀ i∈ys,-9223372036854775808≤i∧i<9223372036854775808) (_:xs.length≤maxLen) (_:ys.length≤maxLen) (va wa:Option Addr) (vc wc:Nat) (qv qw:List (Int×Int)) (_:QAt w va qv) (_:QAt w wa qw) (_:QOk qv) (_:QOk qw) (_:qv.length≤maxLen) (_:qw.length≤maxLen),Calls Tryz.prog 3 #[.int .i64 n,.int .i64 m,.slice xa xs.length xc,.slice ya ys.length yc,.slice va qv.length vc,.slice wa qw.length wc] w fun e w'=>e=.returned (.bool true)∧Below w.heap.size w w'}:=⟨_,fun Kcut=>by
 replace Kcut:Keep _:=⟨Kcut⟩
 intro w n m hn64 hm64 xa ya xc yc xs ys hx hy hxb hyb hLx hLy va wa vc wc qv qw hqv hqw hov how hLv hLw
 have cz:=works21_any
 have hin:=In.self w
 obtain⟨X,hX⟩:∃ k,k=xs.length:=⟨_,rfl⟩
 obtain⟨Y,hY⟩:∃ k,k=ys.length:=⟨_,rfl⟩
 obtain⟨V,hV⟩:∃ k,k=qv.length:=⟨_,rfl⟩
 obtain⟨U,hU⟩:∃ k,k=qw.length:=⟨_,rfl⟩
 rw[←hX,←hY,←hV,←hU]
 rw[←hX] at hLx
 rw[←hY] at hLy
 rw[←hV] at hLv
 rw[←hU] at hLw
 have HX:=Lib.hid hX
 clear hX
 have HY:=Lib.hid hY
 clear hY
 have HV:=Lib.hid hV
 clear hV
 have HU:=Lib.hid hU
 clear hU
 clear hxb hyb
 obtain⟨bb,hbb⟩:∃ b:Bool,b=!decide (((n≤12∨2048<n)∧(m≤12∨2048<m)∧X≤9∧Y≤9∧V≤9∧U≤9)):=⟨_,rfl⟩
 have HBB:=Lib.hid hbb
 clear hbb
 go_enter Tryz.func3,Tryz.ntmps3
 go_upto_region 1 with fail
 go_cut [69] from 36 to 69 (fun v69 wx=>v69=.bool bb∧w=wx)
 case first=>
  clear Kcut
  by_cases g0:(12:Int)<n∧n≤2048
  ·obtain⟨k0,k1⟩:=g0
   go_wp2_with fail
   go_meet
   exact⟨by rw[HBB.out];first | exact congrArg (fun b=>Value.bool !b) (decide_eq_true (by omega)).symm | exact congrArg (fun b=>Value.bool !b) (decide_eq_false (by omega)).symm,rfl⟩
  rcases(by omega:¬ (12:Int)<n∨(12:Int)<n∧¬ n≤2048) with k0 |⟨k0,k1⟩ <;> clear g0
  all_goals
   by_cases g1:(12:Int)<m∧m≤2048
   ·obtain⟨k2,k3⟩:=g1
    go_wp2_with fail
    go_meet
    exact⟨by rw[HBB.out];first | exact congrArg (fun b=>Value.bool !b) (decide_eq_true (by omega)).symm | exact congrArg (fun b=>Value.bool !b) (decide_eq_false (by omega)).symm,rfl⟩
   rcases(by omega:¬ (12:Int)<m∨(12:Int)<m∧¬ m≤2048) with k2 |⟨k2,k3⟩ <;> clear g1
   all_goals
    by_cases k4:(9:Int)<X
    ·go_wp2_with fail
     go_meet
     exact⟨by rw[HBB.out];first | exact congrArg (fun b=>Value.bool !b) (decide_eq_true (by omega)).symm | exact congrArg (fun b=>Value.bool !b) (decide_eq_false (by omega)).symm,rfl⟩
    by_cases k5:(9:Int)<Y
    ·go_wp2_with fail
     go_meet
     exact⟨by rw[HBB.out];first | exact congrArg (fun b=>Value.bool !b) (decide_eq_true (by omega)).symm | exact congrArg (fun b=>Value.bool !b) (decide_eq_false (by omega)).symm,rfl⟩
    by_cases k6:(9:Int)<V
    ·go_wp2_with fail
     go_meet
     exact⟨by rw[HBB.out];first | exact congrArg (fun b=>Value.bool !b) (decide_eq_true (by omega)).symm | exact congrArg (fun b=>Value.bool !b) (decide_eq_false (by omega)).symm,rfl⟩
    by_cases k7:(9:Int)<U
    ·go_wp2_with fail
     go_meet
     exact⟨by rw[HBB.out];first | exact congrArg (fun b=>Value.bool !b) (decide_eq_true (by omega)).symm | exact congrArg (fun b=>Value.bool !b) (decide_eq_false (by omega)).symm,rfl⟩
    go_wp2_with fail
    go_meet
    exact⟨by rw[HBB.out];first | exact congrArg (fun b=>Value.bool !b) (decide_eq_true (by omega)).symm | exact congrArg (fun b=>Value.bool !b) (decide_eq_false (by omega)).symm,rfl⟩
 case rest=>
  obtain⟨rfl,rfl⟩:=hcut
  by_cases hbt:bb=true
  ·clear Kcut
   subst hbt
   clear HBB
   (go_wp2_with fail;(((with_reducible refine(cz _).mono ?_)));rintro e wc1 ⟨rfl,hb⟩;replace hin:=hin.call hb;replace hx:=hx.call hb;replace hy:=hy.call hb;replace hqv:=hqv.call hb;replace hqw:=hqw.call hb;clear hb)
   go_wp2_with fail
   go_ret
   exact⟨rfl,hin.bel⟩
  ·obtain rfl:bb=false:=bool_ne hbt
   have hgood:=of_decide_eq_true (by simpa using HBB.out)
   obtain⟨gn,gm,gX,gY,gV,gU⟩:=hgood
   replace gn:n≤12∨2048<n:=by omega
   replace gm:m≤12∨2048<m:=by omega
   clear HBB hLx hLy hLv hLw hbt
   obtain⟨K,hK,hK2,hK12⟩:∃ K:Nat,(n≤12→K=n.toNat)∧(¬ n≤12→K=0)∧K≤12:=by
    by_cases h:n≤12
    ·exact⟨n.toNat,fun _=>rfl,fun g=>absurd h g,by omega⟩
    ·exact⟨0,fun g=>absurd g h,fun _=>rfl,by omega⟩
   have HK:=Lib.hid hK
   have HK2:=Lib.hid hK2
   clear hK hK2
   go_upto_region 4 with fail
   have HX0:=Lib.hid hx
   have HY0:=Lib.hid hy
   have HV0:=Lib.hid hqv
   have HU0:=Lib.hid hqw
   ((obtain⟨Sb,hSb⟩:∃ z,z=w.heap.size:=⟨_,rfl⟩);(have bSb:=Bx.new_at w #[.int .i64 n,.int .i64 m,.slice none 0 0] 27 hSb);(have HSBW:=Lib.hid (show Sb=w.heap.size from hSb));(replace hin:=hin.alloc (.cells #[.int .i64 n,.int .i64 m,.slice none 0 0] 27));(replace hx:=hx.call ((Below.refl _ _).alloc (Nat.le_refl _) (.cells #[.int .i64 n,.int .i64 m,.slice none 0 0] 27)));(replace hy:=hy.call ((Below.refl _ _).alloc (Nat.le_refl _) (.cells #[.int .i64 n,.int .i64 m,.slice none 0 0] 27)));(replace hqv:=hqv.call ((Below.refl _ _).alloc (Nat.le_refl _) (.cells #[.int .i64 n,.int .i64 m,.slice none 0 0] 27)));(replace hqw:=hqw.call ((Below.refl _ _).alloc (Nat.le_refl _) (.cells #[.int .i64 n,.int .i64 m,.slice none 0 0] 27)));(rw[←hSb]);clear hSb;(generalize w.alloc (.cells #[.int .i64 n,.int .i64 m,.slice none 0 0] 27)=w4 at *))
   repeat (rename Value=>q9;revert q9)
   rename_i ye10_ ye11_ ye12_ ye13_ ye14_
   revert w n m hn64 hm64 xa ya xc yc xs ys va wa vc wc qv qw hov how cz X Y V U HX HY HV HU ye10_ gX gY gV gU gn gm K hK12 HK HK2 ye11_ ye12_ ye13_ ye14_ HX0 HY0 HV0 HU0 Sb HSBW w4 bSb hin hx hy hqv hqw
   exact Kcut.out
 ⟩
set_option maxRecDepth 100000 in
set_option maxHeartbeats 16000000 in
def errors21_any_q2:{P:Prop // P→errors21_any_q1.1}:=⟨_,fun Kcut=>by
 replace Kcut:Keep _:=⟨Kcut⟩
 intro w n m hn64 hm64 xa ya xc yc xs ys va wa vc wc qv qw hov how cz X Y V U HX HY HV HU ye10_ gX gY gV gU gn gm K hK12 HK HK2 ye11_ ye12_ ye13_ ye14_ HX0 HY0 HV0 HU0 Sb HSBW w4 bSb hin hx hy hqv hqw
 intros
 obtain⟨j0,hj0,hj1,hj2,hj3⟩:=info_parts info_ents
 have hself:=In.self w4
 have HSB:Hid (Bx w4 Sb 27 [.int .i64 n,.int .i64 m,.slice none 0 0]):=Lib.hid bSb
 have hSb9:=bSb.lt
 go_wp2_with fail
 go_loopw [14] (fun v14 wr=>∃ i:Nat,∃ (ra:Option Addr) (rc:Nat),i≤K∧v14=.int .i64 i∧In Sb w4 wr∧Bx wr Sb 27 [.int .i64 n,.int .i64 m,.slice ra i rc]∧wr.ownsRow w4.heap.size 96 1 (.slice ra i rc) i (List.replicate i (.slice none 0 0))) (fun v14 _=>K - (RowKit.intOf v14).toNat)
 case atStart=>exact⟨0,none,0,Nat.zero_le _,rfl,⟨Below.refl _ _,Nat.le_of_lt hSb9⟩,bSb,World.ownsRow_nil _ _ _ _⟩
 case round=>
  rename World=>wr
  obtain⟨i,ra,rc,hi,rfl,hr,bx,hown⟩:=hrel
  clear bSb
  by_cases hic:i<K
  ·clear Kcut
   have hn12:n≤12:=by
    by_cases h:n≤12
    ·exact h
    ·have:=HK2.out (by omega);omega
   have hKn:=HK.out hn12
   have hiI:(i:Int)<n:=by omega
   have hi0:(0:Int)≤i:=by omega
   have hiw:IntKind.i64.wrap ((i:Int)+1)=((i+1:Nat):Int):=IntWalk.i64_in _ (by omega)
   have HOWN:=Lib.hid hown
   have HIN:=Lib.hid hr
   have HBX:=Lib.hid bx
   have hsz:Sb<w4.heap.size:=hSb9
   have hsz2:=hr.siz
   have hsz4:=hr.bel.size
   have hsz3:=bx.lt
   have s0:=bx.c0;have s1:=bx.c1;have s2:=bx.c2;have sl:=bx.lt
   have sf:=bx.frozen 2
   clear hown hr bx hKn
   go_upto_region 7 with fail
   go_wp2_with (at_builtin;go_loud (refine wpList_append_own _ rfl (.tmp 84) (.tmp 85) 25 rfl w4.heap.size 96 j0 (.slice none 0 0) 1 24 Tryz.underlying25 hj0 hj1 hj2 hj3 rfl (by decide) (.slice ra i rc) i (List.replicate i (.slice none 0 0)) rfl (HOWN.out.alloc _) ⟨wr.heap.size,0,none⟩ 1 1 [.slice none 0 0] rfl rfl ?r1 ?r2 ?r3 ?r4 ?r5 ?_))
   case r1=>intro t u ht;rw[Addr.add_lit,Nat.zero_add,(Bx.new_at wr #[.slice none 0 0] 96 rfl).cell t];exact ht
   try case r2=>(first | rfl |(intro u hu;simp only[List.mem_cons,List.not_mem_nil,or_false] at hu;subst hu;rfl))
   try case r3=>simp only[maxLen];omega
   try case r4=>omega
   try case r5=>(first | omega |(rw[World.size_alloc];omega))
   intro v' w9 hown9 hgr _
   have hin9:In Sb w4 w9:=by
    have h5:=HIN.out.alloc (.cells #[.slice none 0 0] 96)
    exact⟨h5.bel.grown hgr h5.siz (fun k h=>by have:=(World.ownsRow.lt HOWN.out k h).1;omega),Nat.le_trans h5.siz hgr.size⟩
   have hbx9:=bx_grown_own (HBX.out.alloc (.cells #[.slice none 0 0] 96)) (HOWN.out.alloc (.cells #[.slice none 0 0] 96)) (by decide) hgr
   rw[←List.replicate_succ'] at hown9
   obtain⟨g9,c9,rfl⟩:∃ g9 c9,v'=.slice (some ⟨g9,0,none⟩) (i+1) c9:=owns_cons hown9
   have K1:=Lib.hid (hbx9.set 2 (.slice (some ⟨g9,0,none⟩) (i+1) c9))
   have K2:=Lib.hid (hin9.setCell (p:=⟨Sb,2,none⟩) (Nat.le_refl _) (.slice (some ⟨g9,0,none⟩) (i+1) c9))
   have K3:=Lib.hid (ownsRow_grown hown9 hbx9 (by decide) (gr_cell w9 ⟨Sb,2,none⟩ (.slice (some ⟨g9,0,none⟩) (i+1) c9)))
   clear HOWN HIN HBX s0 s1 s2 sl sf hsz2 hsz3 hsz4 hgr hin9 hown9
   have s0:=hbx9.c0;have s1:=hbx9.c1;have s2:=hbx9.c2;have sl:=hbx9.lt
   have sf:=hbx9.frozen 2
   clear hbx9
   go_wp2_with fail
   have k1:=K1.out
   simp only[List.set] at k1
   exact⟨⟨i+1,_,_,by omega,by go_num,K2.out,k1,K3.out⟩,by simp[RowKit.intOf];omega⟩
  ·have hiK:i=K:=by omega
   obtain⟨ra',rc',he9,hrow⟩:=nil_rows hown
   simp only[Value.slice.injEq] at he9
   obtain⟨rfl,_,rfl⟩:=he9
   rw[hiK] at hrow bx
   have hM:=mate_of (c:=rc) hrow gn gm HK.out hK12
   have hwr:Below w.heap.size w wr:=hin.bel.trans (by rw[←HSBW.out];exact hr.bel)
   clear hin
   have hin:In w.heap.size w wr:=⟨hwr,hwr.size⟩
   replace hx:=HX0.out.call hwr
   replace hy:=HY0.out.call hwr
   replace hqv:=HV0.out.call hwr
   replace hqw:=HU0.out.call hwr
   subst hiK
   clear hown HSB hself hj0 hj1 hj2 hj3 hSb9 HX0 HY0 HV0 HU0 hwr HSBW hr hi hic
   go_upto_region 5 with fail
   go_cut [80] from 74 to 80 (fun v80 wx=>v80=.bool false∧wr=wx)
   case first=>
    clear Kcut
    by_cases h12:n≤12
    ·have k0:=HK.out h12
     have k1:¬ (i:Int)<n:=by omega
     clear k0 h12
     go_wp2_with fail
     go_meet
     exact⟨rfl,rfl⟩
    ·have k0:=HK2.out (by omega)
     have k1:(i:Int)<n:=by omega
     clear k0
     go_wp2_with fail
     go_meet
     exact⟨rfl,rfl⟩
   case rest=>
   obtain⟨rfl,rfl⟩:=hcut
   go_upto_region 8 with fail
   obtain⟨K,hKi⟩:∃ K,K=i:=⟨_,rfl⟩
   subst hKi
   repeat (rename Value=>q9;revert q9)
   rename_i ye20_ ye21_ ye22_ ye23_
   revert w n m hn64 hm64 xa ya xc yc xs ys va wa vc wc qv qw hov how cz X Y V U HX HY HV HU ye10_ gX gY gV gU gn gm ye11_ Sb w4 j0 wr ra rc ye20_ hin hx hy hqv hqw ye21_ ye22_ ye23_ K hK12 HK HK2 bx hrow hM
   exact Kcut.out
 ⟩
set_option maxRecDepth 100000 in
set_option maxHeartbeats 16000000 in
def errors21_any_q3:{P:Prop // P→errors21_any_q2.1}:=⟨_,fun Kcut=>by
 replace Kcut:Keep _:=⟨Kcut⟩
 intro w n m hn64 hm64 xa ya xc yc xs ys va wa vc wc qv qw hov how cz X Y V U HX HY HV HU ye10_ gX gY gV gU gn gm ye11_ Sb w4 j0 wr ra rc ye20_ hin hx hy hqv hqw ye21_ ye22_ ye23_ K hK12 HK HK2 bx hrow hM
 intros
 obtain⟨o1,ho1⟩:∃ z,z=sidesE n n:=⟨_,rfl⟩
 have Ho1:=Lib.hid ho1
 clear ho1
 have ck:=scheck_any wr (.agg #[.int .i64 n,.int .i64 n,.slice ra K rc]) n n (List.replicate K []) (hrow.g n n rc) (by rw[List.length_replicate];omega) (fun j=>by
  rw[List.getD_eq_getElem?_getD,List.getElem?_replicate]
  split <;> simp)
 rw[check_nil gn HK.out,←Ho1.out] at ck
 (have s0:=bx.c0;have s1:=bx.c1;have s2:=bx.c2;have sl:=bx.lt)
 (go_wp2_with fail;(((with_reducible refine(ck).mono ?_)));rintro e wc1 ⟨rfl,hb⟩;clear s0 s1 s2 sl ck;replace hin:=hin.call hb;replace hx:=hx.call hb;replace hy:=hy.call hb;replace hqv:=hqv.call hb;replace hqw:=hqw.call hb;replace hrow:=hrow.call hb;replace hM:=hM.call hb;replace bx:=bx.call hb;clear hb)
 go_upto_region 9 with fail
 repeat (rename Value=>q9;revert q9)
 rename_i ye30_ ye31_ ye32_ ye33_
 revert w n m hn64 hm64 xa ya xc yc xs ys va wa vc wc qv qw hov how cz X Y V U HX HY HV HU ye10_ gX gY gV gU gn gm ye11_ Sb w4 j0 wr ra rc ye20_ ye21_ K hK12 HK HK2 o1 Ho1 wc1 hin hx hy hqv hqw hrow hM bx ye30_ ye31_ ye32_ ye33_
 exact Kcut.out
 ⟩
set_option maxRecDepth 100000 in
set_option maxHeartbeats 16000000 in
def errors21_any_q4:{P:Prop // P→errors21_any_q3.1}:=⟨_,fun Kcut=>by
 replace Kcut:Keep _:=⟨Kcut⟩
 intro w n m hn64 hm64 xa ya xc yc xs ys va wa vc wc qv qw hov how cz X Y V U HX HY HV HU ye10_ gX gY gV gU gn gm ye11_ Sb w4 j0 wr ra rc ye20_ ye21_ K hK12 HK HK2 o1 Ho1 wc1 hin hx hy hqv hqw hrow hM bx ye30_ ye31_ ye32_ ye33_
 intros
 have hself:=In.self wc1
 clear hself
 obtain⟨b0,hb9⟩:∃ b:Bool,b=decide ((2048:Int)<n):=⟨_,rfl⟩
 have HBb0:=Lib.hid hb9
 clear hb9
 go_cut [95] from 94 to 95 (fun v95 wx=>v95=.bool b0∧wc1=wx)
 case first=>
  clear Kcut
  by_cases h0:(2048:Int)<n
  ·have H0:=Lib.hid h0
   go_wp2_with fail
   go_meet
   exact⟨by rw[HBb0.out,decide_eq_true H0.out],rfl⟩
  ·have H0:=Lib.hid h0
   go_wp2_with fail
   go_meet
   exact⟨by rw[HBb0.out,decide_eq_false (by have:=H0.out;omega)],rfl⟩
 case rest=>
  obtain⟨rfl,rfl⟩:=hcut
  go_upto_if 95 with fail
  go_cut [15] (fun v15 wx=>v15=.int .i64 o1∧wc1=wx)
  case first=>
   clear Kcut
   rcases b0 with _ | _
   ·have hval:=(rfl:o1=o1)
    have HVAL:=Lib.hid hval
    clear hval
    go_wp2_with fail
    go_meet
    exact⟨by first | rw[HVAL.out]| rfl,rfl⟩
   ·have hval:=(show o1=3 by rw[Ho1.out,sidesE_self,if_neg (by have:=of_decide_eq_true HBb0.out.symm;omega),if_pos (of_decide_eq_true HBb0.out.symm)])
    have HVAL:=Lib.hid hval
    clear hval
    go_wp2_with fail
    go_meet
    exact⟨by rw[HVAL.out],rfl⟩
  case rest=>
   obtain⟨rfl,rfl⟩:=hcut
   clear HBb0
   go_upto_region 11 with fail
   repeat (rename Value=>q9;revert q9)
   rename_i ye40_ ye41_ ye42_ ye43_
   revert w n m hn64 hm64 xa ya xc yc xs ys va wa vc wc qv qw hov how cz X Y V U HX HY HV HU ye10_ gX gY gV gU gn gm ye11_ Sb w4 j0 wr ra rc ye20_ ye21_ K hK12 HK HK2 o1 Ho1 wc1 hin hx hy hqv hqw hrow hM bx b0 ye40_ ye41_ ye42_ ye43_
   exact Kcut.out
 ⟩
set_option maxRecDepth 100000 in
set_option maxHeartbeats 16000000 in
def errors21_any_q5:{P:Prop // P→errors21_any_q4.1}:=⟨_,fun Kcut=>by
 replace Kcut:Keep _:=⟨Kcut⟩
 intro w n m hn64 hm64 xa ya xc yc xs ys va wa vc wc qv qw hov how cz X Y V U HX HY HV HU ye10_ gX gY gV gU gn gm ye11_ Sb w4 j0 wr ra rc ye20_ ye21_ K hK12 HK HK2 o1 Ho1 wc1 hin hx hy hqv hqw hrow hM bx b0 ye40_ ye41_ ye42_ ye43_
 intros
 obtain⟨b1,hb9⟩:∃ b:Bool,b=decide (o1=0∧¬ allDif n xs=true):=⟨_,rfl⟩
 have HBb1:=Lib.hid hb9
 clear hb9
 have hself:=In.self wc1
 obtain⟨wk,hwk⟩:∃ wk,wk=wc1:=⟨_,rfl⟩
 have HWK:=Lib.hid hwk
 clear hwk
 go_cut [103] from 96 to 103 (fun v103 wx=>v103=.bool b1∧In wc1.heap.size wc1 wx)
 case first=>
  clear Kcut
  by_cases h0:o1=0
  ·have k1:(o1 == 0)=true:=by simpa using h0
   have H0:=Lib.hid h0
   clear h0
   have cd:=distinct21_any wc1 n xa xc xs hx (by rw[←HX.out];omega)
   rw[←HX.out] at cd
   obtain⟨d,hd9⟩:∃ d,d=allDif n xs:=⟨_,rfl⟩
   rw[←hd9] at cd
   have HD:=Lib.hid hd9
   clear hd9
   (go_wp2_with fail;(((with_reducible refine(cd).mono ?_)));rintro e wc2 ⟨rfl,hb⟩;clear cd;replace hin:=hin.call hb;replace hself:=hself.call hb;replace hx:=hx.call hb;replace hy:=hy.call hb;replace hqv:=hqv.call hb;replace hqw:=hqw.call hb;replace hrow:=hrow.call hb;replace hM:=hM.call hb;replace bx:=bx.call hb;clear hb)
   have HSF:=Lib.hid hself
   rcases d with _ | _
   ·clear hself
    go_wp2_with fail
    go_meet
    exact⟨by rw[HBb1.out,decide_eq_true ⟨H0.out,by rw[←HD.out];exact Bool.false_ne_true⟩],HSF.out⟩
   ·clear hself
    go_wp2_with fail
    go_meet
    exact⟨by rw[HBb1.out,decide_eq_false (fun h=>h.2 (by rw[←HD.out]))],HSF.out⟩
  ·have k1:(o1 == 0)=false:=by simpa using h0
   have H0:=Lib.hid h0
   have HSF:=Lib.hid hself
   clear h0 hself
   go_wp2_with fail
   go_meet
   exact⟨by rw[HBb1.out,decide_eq_false (fun h=>H0.out h.1)],HSF.out⟩
 case rest=>
  skip
  obtain⟨rfl,hk9⟩:=hcut
  clear hself HWK
  have hb:=hk9.bel
  clear hk9
  rename World=>wkb1
  (replace hin:=hin.call hb;replace hx:=hx.call hb;replace hy:=hy.call hb;replace hqv:=hqv.call hb;replace hqw:=hqw.call hb;replace hrow:=hrow.call hb;replace hM:=hM.call hb;replace bx:=bx.call hb;clear hb)
  repeat (rename Value=>q9;revert q9)
  revert w n m hn64 hm64 xa ya xc yc xs ys va wa vc wc qv qw hov how cz X Y V U HX HY HV HU ye10_ gX gY gV gU gn gm ye11_ Sb w4 j0 wr ra rc ye20_ ye21_ K hK12 HK HK2 o1 Ho1 wc1 b0 ye40_ ye41_ ye42_ ye43_ b1 HBb1 wk wkb1 hin hx hy hqv hqw hrow hM bx
  exact Kcut.out
 ⟩
set_option maxRecDepth 100000 in
set_option maxHeartbeats 16000000 in
def errors21_any_q6:{P:Prop // P→errors21_any_q5.1}:=⟨_,fun Kcut=>by
 replace Kcut:Keep _:=⟨Kcut⟩
 intro w n m hn64 hm64 xa ya xc yc xs ys va wa vc wc qv qw hov how cz X Y V U HX HY HV HU ye10_ gX gY gV gU gn gm ye11_ Sb w4 j0 wr ra rc ye20_ ye21_ K hK12 HK HK2 o1 Ho1 wc1 b0 ye40_ ye41_ ye42_ ye43_ b1 HBb1 wk wkb1 hin hx hy hqv hqw hrow hM bx
 intros
 obtain⟨ow,how⟩:∃ z,z=outW n xs:=⟨_,rfl⟩
 have How:=Lib.hid how
 clear how
 go_upto_if 103 with fail
 go_cut [15] (fun v15 wx=>v15=.int .i64 ow∧wkb1=wx)
 case first=>
  clear Kcut
  rcases b1 with _ | _
  ·have hval:=(show ow=o1 by rw[How.out,outW_of,if_neg (by rw[←Ho1.out];exact of_decide_eq_false HBb1.out.symm),Ho1.out])
   have HVAL:=Lib.hid hval
   clear hval
   go_wp2_with fail
   go_meet
   exact⟨by first | rw[HVAL.out]| rfl,rfl⟩
  ·have hval:=(show ow=1 by rw[How.out,outW_of,if_pos (by rw[←Ho1.out];exact of_decide_eq_true HBb1.out.symm)])
   have HVAL:=Lib.hid hval
   clear hval
   go_wp2_with fail
   go_meet
   exact⟨by rw[HVAL.out],rfl⟩
 case rest=>
  obtain⟨rfl,rfl⟩:=hcut
  clear HBb1 Ho1
  repeat (rename Value=>q9;revert q9)
  revert w n m hn64 hm64 xa ya xc yc xs ys va wa vc wc qv qw hov how cz X Y V U HX HY HV HU ye10_ gX gY gV gU gn gm ye11_ Sb w4 j0 wr ra rc ye20_ ye21_ K hK12 HK HK2 o1 wc1 b0 ye40_ ye41_ b1 wk wkb1 hin hx hy hqv hqw hrow hM bx ow How
  exact Kcut.out
 ⟩
set_option maxRecDepth 100000 in
set_option maxHeartbeats 16000000 in
def errors21_any_q7:{P:Prop // P→errors21_any_q6.1}:=⟨_,fun Kcut=>by
 replace Kcut:Keep _:=⟨Kcut⟩
 intro w n m hn64 hm64 xa ya xc yc xs ys va wa vc wc qv qw hov how cz X Y V U HX HY HV HU ye10_ gX gY gV gU gn gm ye11_ Sb w4 j0 wr ra rc ye20_ ye21_ K hK12 HK HK2 o1 wc1 b0 ye40_ ye41_ b1 wk wkb1 hin hx hy hqv hqw hrow hM bx ow How
 intros
 obtain⟨s1,hs1⟩:∃ z,z=sqE n m:=⟨_,rfl⟩
 have Hs1:=Lib.hid hs1
 clear hs1
 have cs:=square21_any wkb1 n m ra K rc (sidesE n m) (fun W hW=>by
  have:=scheck_any W (.agg #[.int .i64 n,.int .i64 m,.slice ra K rc]) n m (List.replicate K []) ((hrow.call hW).g n m rc) (by rw[List.length_replicate];omega) (fun j=>by
   rw[List.getD_eq_getElem?_getD,List.getElem?_replicate]
   split <;> simp)
  rw[check_nil gn HK.out] at this
  exact this)
 rw[←sq_check,←Hs1.out] at cs
 (have s0:=bx.c0;have s1:=bx.c1;have s2:=bx.c2;have sl:=bx.lt)
 (go_wp2_with fail;(((with_reducible refine(cs).mono ?_)));rintro e wc2 ⟨rfl,hb⟩;clear s0 s1 s2 sl cs;replace hin:=hin.call hb;replace hx:=hx.call hb;replace hy:=hy.call hb;replace hqv:=hqv.call hb;replace hqw:=hqw.call hb;replace hrow:=hrow.call hb;replace hM:=hM.call hb;replace bx:=bx.call hb;clear hb)
 go_upto_region 15 with fail
 repeat (rename Value=>q9;revert q9)
 rename_i ye70_ ye71_ ye72_ ye73_
 revert w n m hn64 hm64 xa ya xc yc xs ys va wa vc wc qv qw hov how cz X Y V U HX HY HV HU ye10_ gX gY gV gU gn gm ye11_ Sb w4 j0 wr ra rc ye20_ ye21_ K hK12 HK HK2 o1 wc1 b0 b1 wk wkb1 ow How s1 Hs1 wc2 hin hx hy hqv hqw hrow hM bx ye70_ ye71_ ye72_ ye73_
 exact Kcut.out
 ⟩
set_option maxRecDepth 100000 in
set_option maxHeartbeats 16000000 in
def errors21_any_q8:{P:Prop // P→errors21_any_q7.1}:=⟨_,fun Kcut=>by
 replace Kcut:Keep _:=⟨Kcut⟩
 intro w n m hn64 hm64 xa ya xc yc xs ys va wa vc wc qv qw hov how cz X Y V U HX HY HV HU ye10_ gX gY gV gU gn gm ye11_ Sb w4 j0 wr ra rc ye20_ ye21_ K hK12 HK HK2 o1 wc1 b0 b1 wk wkb1 ow How s1 Hs1 wc2 hin hx hy hqv hqw hrow hM bx ye70_ ye71_ ye72_ ye73_
 intros
 obtain⟨b2,hb9⟩:∃ b:Bool,b=decide (s1=0∧¬ allDif n xs=true):=⟨_,rfl⟩
 have HBb2:=Lib.hid hb9
 clear hb9
 have hself:=In.self wc2
 obtain⟨wk,hwk⟩:∃ wk,wk=wc2:=⟨_,rfl⟩
 have HWK:=Lib.hid hwk
 clear hwk
 go_cut [114] from 106 to 114 (fun v114 wx=>v114=.bool b2∧In wc2.heap.size wc2 wx)
 case first=>
  clear Kcut
  by_cases h0:s1=0
  ·have k1:(s1 == 0)=true:=by simpa using h0
   have H0:=Lib.hid h0
   clear h0
   have cd:=distinct21_any wc2 n xa xc xs hx (by rw[←HX.out];omega)
   rw[←HX.out] at cd
   obtain⟨d,hd9⟩:∃ d,d=allDif n xs:=⟨_,rfl⟩
   rw[←hd9] at cd
   have HD:=Lib.hid hd9
   clear hd9
   (go_wp2_with fail;(((with_reducible refine(cd).mono ?_)));rintro e wc3 ⟨rfl,hb⟩;clear cd;replace hin:=hin.call hb;replace hself:=hself.call hb;replace hx:=hx.call hb;replace hy:=hy.call hb;replace hqv:=hqv.call hb;replace hqw:=hqw.call hb;replace hrow:=hrow.call hb;replace hM:=hM.call hb;replace bx:=bx.call hb;clear hb)
   have HSF:=Lib.hid hself
   rcases d with _ | _
   ·clear hself
    go_wp2_with fail
    go_meet
    exact⟨by rw[HBb2.out,decide_eq_true ⟨H0.out,by rw[←HD.out];exact Bool.false_ne_true⟩],HSF.out⟩
   ·clear hself
    go_wp2_with fail
    go_meet
    exact⟨by rw[HBb2.out,decide_eq_false (fun h=>h.2 (by rw[←HD.out]))],HSF.out⟩
  ·have k1:(s1 == 0)=false:=by simpa using h0
   have H0:=Lib.hid h0
   have HSF:=Lib.hid hself
   clear h0 hself
   go_wp2_with fail
   go_meet
   exact⟨by rw[HBb2.out,decide_eq_false (fun h=>H0.out h.1)],HSF.out⟩
 case rest=>
  skip
  obtain⟨rfl,hk9⟩:=hcut
  clear hself HWK
  have hb:=hk9.bel
  clear hk9
  rename World=>wkb2
  (replace hin:=hin.call hb;replace hx:=hx.call hb;replace hy:=hy.call hb;replace hqv:=hqv.call hb;replace hqw:=hqw.call hb;replace hrow:=hrow.call hb;replace hM:=hM.call hb;replace bx:=bx.call hb;clear hb)
  repeat (rename Value=>q9;revert q9)
  rename_i ye80_
  revert w n m hn64 hm64 xa ya xc yc xs ys va wa vc wc qv qw hov how cz X Y V U HX HY HV HU ye10_ gX gY gV gU gn gm ye11_ Sb w4 j0 wr ra rc ye20_ ye21_ K hK12 HK HK2 o1 wc1 b0 b1 ye80_ wkb1 ow How s1 Hs1 wc2 ye70_ ye71_ ye72_ ye73_ b2 HBb2 wk wkb2 hin hx hy hqv hqw hrow hM bx
  exact Kcut.out
 ⟩
set_option maxRecDepth 100000 in
set_option maxHeartbeats 16000000 in
def errors21_any_q9:{P:Prop // P→errors21_any_q8.1}:=⟨_,fun Kcut=>by
 replace Kcut:Keep _:=⟨Kcut⟩
 intro w n m hn64 hm64 xa ya xc yc xs ys va wa vc wc qv qw hov how cz X Y V U HX HY HV HU ye10_ gX gY gV gU gn gm ye11_ Sb w4 j0 wr ra rc ye20_ ye21_ K hK12 HK HK2 o1 wc1 b0 b1 ye80_ wkb1 ow How s1 Hs1 wc2 ye70_ ye71_ ye72_ ye73_ b2 HBb2 wk wkb2 hin hx hy hqv hqw hrow hM bx
 intros
 obtain⟨on,hon⟩:∃ z,z=oneE n m xs:=⟨_,rfl⟩
 have Hon:=Lib.hid hon
 clear hon
 go_upto_if 114 with fail
 go_cut [16] (fun v16 wx=>v16=.int .i64 on∧wkb2=wx)
 case first=>
  clear Kcut
  rcases b2 with _ | _
  ·have hval:=(show on=s1 by rw[Hon.out,oneE_of,if_neg (by rw[←Hs1.out];exact of_decide_eq_false HBb2.out.symm),Hs1.out])
   have HVAL:=Lib.hid hval
   clear hval
   go_wp2_with fail
   go_meet
   exact⟨by first | rw[HVAL.out]| rfl,rfl⟩
  ·have hval:=(show on=1 by rw[Hon.out,oneE_of,if_pos (by rw[←Hs1.out];exact of_decide_eq_true HBb2.out.symm)])
   have HVAL:=Lib.hid hval
   clear hval
   go_wp2_with fail
   go_meet
   exact⟨by rw[HVAL.out],rfl⟩
 case rest=>
  obtain⟨rfl,rfl⟩:=hcut
  clear HBb2
  go_upto_region 17 with fail
  repeat (rename Value=>q9;revert q9)
  rename_i ye90_ ye91_ ye92_ ye93_
  revert w n m hn64 hm64 xa ya xc yc xs ys va wa vc wc qv qw hov how cz X Y V U HX HY HV HU ye10_ gX gY gV gU gn gm ye11_ Sb w4 j0 wr ra rc ye20_ ye21_ K hK12 HK HK2 o1 wc1 b0 b1 ye80_ wkb1 ow How s1 Hs1 wc2 b2 wk wkb2 hin hx hy hqv hqw hrow hM bx on Hon ye90_ ye91_ ye92_ ye93_
  exact Kcut.out
 ⟩
end Gus
end
