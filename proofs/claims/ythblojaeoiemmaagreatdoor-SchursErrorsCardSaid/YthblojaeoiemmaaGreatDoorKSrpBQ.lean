/- Proved here: parts of the proof: KSrpB. Conditions: those that each theorem states. -/
import Derived.Test.YthblojaeoiemmaaGreatDoorKSrpAQ
section
namespace Gus
open Go Go.RowKit Go.Proofs
set_option maxRecDepth 100000 in
set_option maxHeartbeats 16000000 in
def errors21_any_q10:{P:Prop // P→errors21_any_q9.1}:=⟨_,fun Kcut=>by
 replace Kcut:Keep _:=⟨Kcut⟩
 intro w n m hn64 hm64 xa ya xc yc xs ys va wa vc wc qv qw hov how cz X Y V U HX HY HV HU ye10_ gX gY gV gU gn gm ye11_ Sb w4 j0 wr ra rc ye20_ ye21_ K hK12 HK HK2 o1 wc1 b0 b1 ye80_ wkb1 ow How s1 Hs1 wc2 b2 wk wkb2 hin hx hy hqv hqw hrow hM bx on Hon ye90_ ye91_ ye92_ ye93_
 intros
 obtain⟨b3,hb9⟩:∃ b:Bool,b=decide (s1=0∧¬ allDif n (xs ++ ys)=true):=⟨_,rfl⟩
 have HBb3:=Lib.hid hb9
 clear hb9
 have hself:=In.self wkb2
 obtain⟨wk,hwk⟩:∃ wk,wk=wkb2:=⟨_,rfl⟩
 have HWK:=Lib.hid hwk
 clear hwk
 go_cut [126] from 115 to 126 (fun v126 wx=>v126=.bool b3∧In wkb2.heap.size wkb2 wx)
 case first=>
  clear Kcut
  by_cases h0:s1=0
  ·have k1:(s1 == 0)=true:=by simpa using h0
   have H0:=Lib.hid h0
   clear h0
   obtain⟨i0,hi0,hi1,hi2,hi3⟩:=info_parts info_int8
   have HS9:=Lib.hid hself
   have HXI:=Lib.hid hx
   have HYI:=Lib.hid hy
   clear hself
   go_wp2_with (at_builtin;go_loud (refine wpList_append_icz rfl (.tmp 119) (.tmp 120) 22 rfl wkb2.heap.size i0 Tryz.underlying22 hi0 hi1 hi2 hi3 _ 0 [] rfl (World.ownsRow_made (e:=3) (size:=1) wkb2 #[] 0 (Nat.le_refl _) (by decide) rfl) _ _ _ xs rfl ?p1 ?p2 ?p3 ?p4 ?_))
   case p1=>exact HX.out
   case p2=>exact HXI.out.call ((Below.refl _ _).alloc (Nat.le_refl _) _)
   case p3=>omega
   case p4=>rw[World.size_alloc];omega
   intro v3 w3 hown3 hgr3
   have hz3:=own_in (T:=3) (s:=1) (HS9.out.alloc (.cells #[] 3)) (World.ownsRow_made (e:=3) (size:=1) wkb2 #[] 0 (Nat.le_refl _) (by decide) rfl) hgr3
   (try rw[Nat.zero_add] at hown3)
   obtain⟨va3,vc3,rfl⟩:=own_slice hown3
   have HZ3:=Lib.hid hz3
   have HO3:=Lib.hid hown3
   clear hz3 hown3 hgr3
   go_wp2_with (at_builtin;go_loud (refine wpList_append_icz rfl (.tmp 121) (.tmp 122) 22 rfl wkb2.heap.size i0 Tryz.underlying22 hi0 hi1 hi2 hi3 (.slice va3 X vc3) X _ rfl HO3.out _ _ _ ys rfl ?q1 ?q2 ?q3 ?q4 ?_))
   case q1=>exact HY.out
   case q2=>exact HYI.out.call HZ3.out.bel
   case q3=>omega
   case q4=>exact HZ3.out.siz
   intro v4 w4 hown4 hgr4
   have hz4:=own_in (T:=3) (s:=1) HZ3.out HO3.out hgr4
   obtain⟨ja,jc,rfl,hji⟩:=join_icz HX.out HY.out hown4
   have cd:=distinct21_any w4 n ja jc (xs ++ ys) hji (by rw[List.length_append,←HX.out,←HY.out];omega)
   rw[List.length_append] at cd
   obtain⟨d,hd9⟩:∃ d,d=allDif n (xs ++ ys):=⟨_,rfl⟩
   rw[←hd9] at cd
   have HD:=Lib.hid hd9
   have HZ4:=Lib.hid hz4
   clear hd9 hz4 hown4 hgr4 HO3 HZ3 hji
   go_wp2_with fail
   (with_reducible refine cd.mono ?_)
   rintro e w5 ⟨rfl,hb⟩
   have hself:=HZ4.out.call hb
   clear hb cd HZ4
   have HSF:=Lib.hid hself
   rcases d with _ | _
   ·clear hself
    go_wp2_with fail
    go_meet
    exact⟨by rw[HBb3.out,decide_eq_true ⟨H0.out,by rw[←HD.out];exact Bool.false_ne_true⟩],HSF.out⟩
   ·clear hself
    go_wp2_with fail
    go_meet
    exact⟨by rw[HBb3.out,decide_eq_false (fun h=>h.2 (by rw[←HD.out]))],HSF.out⟩
  ·have k1:(s1 == 0)=false:=by simpa using h0
   have H0:=Lib.hid h0
   have HSF:=Lib.hid hself
   clear h0 hself
   go_wp2_with fail
   go_meet
   exact⟨by rw[HBb3.out,decide_eq_false (fun h=>H0.out h.1)],HSF.out⟩
 case rest=>
  skip
  obtain⟨rfl,hk9⟩:=hcut
  clear hself HWK
  have hb:=hk9.bel
  clear hk9
  rename World=>wkb3
  (replace hin:=hin.call hb;replace hx:=hx.call hb;replace hy:=hy.call hb;replace hqv:=hqv.call hb;replace hqw:=hqw.call hb;replace hrow:=hrow.call hb;replace hM:=hM.call hb;replace bx:=bx.call hb;clear hb)
  repeat (rename Value=>q9;revert q9)
  rename_i ye100_
  revert w n m hn64 hm64 xa ya xc yc xs ys va wa vc wc qv qw hov how cz X Y V U HX HY HV HU ye10_ gX gY gV gU gn gm ye11_ Sb w4 j0 wr ra rc ye20_ ye21_ K hK12 HK HK2 o1 wc1 b0 b1 ye80_ wkb1 ow How s1 Hs1 wc2 b2 ye100_ wkb2 on Hon ye90_ ye91_ ye92_ ye93_ b3 HBb3 wk wkb3 hin hx hy hqv hqw hrow hM bx
  exact Kcut.out
 ⟩
set_option maxRecDepth 100000 in
set_option maxHeartbeats 16000000 in
def errors21_any_q11:{P:Prop // P→errors21_any_q10.1}:=⟨_,fun Kcut=>by
 replace Kcut:Keep _:=⟨Kcut⟩
 intro w n m hn64 hm64 xa ya xc yc xs ys va wa vc wc qv qw hov how cz X Y V U HX HY HV HU ye10_ gX gY gV gU gn gm ye11_ Sb w4 j0 wr ra rc ye20_ ye21_ K hK12 HK HK2 o1 wc1 b0 b1 ye80_ wkb1 ow How s1 Hs1 wc2 b2 ye100_ wkb2 on Hon ye90_ ye91_ ye92_ ye93_ b3 HBb3 wk wkb3 hin hx hy hqv hqw hrow hM bx
 intros
 obtain⟨tw,htw⟩:∃ z,z=oneE n m (xs ++ ys):=⟨_,rfl⟩
 have Htw:=Lib.hid htw
 clear htw
 go_upto_if 126 with fail
 go_cut [17] (fun v17 wx=>v17=.int .i64 tw∧wkb3=wx)
 case first=>
  clear Kcut
  rcases b3 with _ | _
  ·have hval:=(show tw=s1 by rw[Htw.out,oneE_of,if_neg (by rw[←Hs1.out];exact of_decide_eq_false HBb3.out.symm),Hs1.out])
   have HVAL:=Lib.hid hval
   clear hval
   go_wp2_with fail
   go_meet
   exact⟨by first | rw[HVAL.out]| rfl,rfl⟩
  ·have hval:=(show tw=1 by rw[Htw.out,oneE_of,if_pos (by rw[←Hs1.out];exact of_decide_eq_true HBb3.out.symm)])
   have HVAL:=Lib.hid hval
   clear hval
   go_wp2_with fail
   go_meet
   exact⟨by rw[HVAL.out],rfl⟩
 case rest=>
  obtain⟨rfl,rfl⟩:=hcut
  clear HBb3 Hs1
  go_upto_region 20 with fail
  repeat (rename Value=>q9;revert q9)
  rename_i ye110_ ye111_ ye112_ ye113_
  revert w n m hn64 hm64 xa ya xc yc xs ys va wa vc wc qv qw hov how cz X Y V U HX HY HV HU ye10_ gX gY gV gU gn gm ye11_ Sb w4 j0 wr ra rc ye20_ ye21_ K hK12 HK HK2 o1 wc1 b0 b1 ye80_ wkb1 ow How s1 wc2 b2 ye100_ wkb2 on Hon b3 wk wkb3 hin hx hy hqv hqw hrow hM bx tw Htw ye110_ ye111_ ye112_ ye113_
  exact Kcut.out
 ⟩
set_option maxRecDepth 100000 in
set_option maxHeartbeats 16000000 in
def errors21_any_q12:{P:Prop // P→errors21_any_q11.1}:=⟨_,fun Kcut=>by
 replace Kcut:Keep _:=⟨Kcut⟩
 intro w n m hn64 hm64 xa ya xc yc xs ys va wa vc wc qv qw hov how cz X Y V U HX HY HV HU ye10_ gX gY gV gU gn gm ye11_ Sb w4 j0 wr ra rc ye20_ ye21_ K hK12 HK HK2 o1 wc1 b0 b1 ye80_ wkb1 ow How s1 wc2 b2 ye100_ wkb2 on Hon b3 wk wkb3 hin hx hy hqv hqw hrow hM bx tw Htw ye110_ ye111_ ye112_ ye113_
 intros
 obtain⟨b4,hb9⟩:∃ b:Bool,b=decide (on=0∧(V:Int)≠n):=⟨_,rfl⟩
 have HBb4:=Lib.hid hb9
 clear hb9
 go_cut [137] from 130 to 137 (fun v137 wx=>v137=.bool b4∧wkb3=wx)
 case first=>
  clear Kcut
  by_cases h0:on=0
  ·have k1:(on == 0)=true:=by simpa using h0
   have H0:=Lib.hid h0
   clear h0
   by_cases hv:(V:Int)=n
   ·have k2:((V:Int) != n)=false:=by simp[hv]
    have HVN:=Lib.hid hv
    clear hv
    go_wp2_with fail
    go_meet
    exact⟨by rw[HBb4.out,decide_eq_false (fun h=>h.2 HVN.out)],rfl⟩
   ·have k2:((V:Int) != n)=true:=by simpa using hv
    have HVN:=Lib.hid hv
    clear hv
    go_wp2_with fail
    go_meet
    exact⟨by rw[HBb4.out,decide_eq_true ⟨H0.out,HVN.out⟩],rfl⟩
  ·have k1:(on == 0)=false:=by simpa using h0
   have H0:=Lib.hid h0
   clear h0
   go_wp2_with fail
   go_meet
   exact⟨by rw[HBb4.out,decide_eq_false (fun h=>H0.out h.1)],rfl⟩
 case rest=>
  obtain⟨rfl,rfl⟩:=hcut
  repeat (rename Value=>q9;revert q9)
  revert w n m hn64 hm64 xa ya xc yc xs ys va wa vc wc qv qw hov how cz X Y V U HX HY HV HU ye10_ gX gY gV gU gn gm ye11_ Sb w4 j0 wr ra rc ye20_ ye21_ K hK12 HK HK2 o1 wc1 b0 b1 ye80_ wkb1 ow How s1 wc2 b2 ye100_ wkb2 on Hon b3 wk wkb3 hin hx hy hqv hqw hrow hM bx tw Htw ye110_ ye111_ ye112_ ye113_ b4 HBb4
  exact Kcut.out
 ⟩
set_option maxRecDepth 100000 in
set_option maxHeartbeats 16000000 in
def errors21_any_q13:{P:Prop // P→errors21_any_q12.1}:=⟨_,fun Kcut=>by
 replace Kcut:Keep _:=⟨Kcut⟩
 intro w n m hn64 hm64 xa ya xc yc xs ys va wa vc wc qv qw hov how cz X Y V U HX HY HV HU ye10_ gX gY gV gU gn gm ye11_ Sb w4 j0 wr ra rc ye20_ ye21_ K hK12 HK HK2 o1 wc1 b0 b1 ye80_ wkb1 ow How s1 wc2 b2 ye100_ wkb2 on Hon b3 wk wkb3 hin hx hy hqv hqw hrow hM bx tw Htw ye110_ ye111_ ye112_ ye113_ b4 HBb4
 intros
 obtain⟨sd,hsd⟩:∃ z,z=sideE n m xs V:=⟨_,rfl⟩
 have Hsd:=Lib.hid hsd
 clear hsd
 go_upto_if 137 with fail
 go_cut [18] (fun v18 wx=>v18=.int .i64 sd∧wkb3=wx)
 case first=>
  clear Kcut
  rcases b4 with _ | _
  ·have hval:=(show sd=on by rw[Hsd.out];unfold sideE;rw[←Hon.out,if_neg (of_decide_eq_false HBb4.out.symm)])
   have HVAL:=Lib.hid hval
   clear hval
   go_wp2_with fail
   go_meet
   exact⟨by first | rw[HVAL.out]| rfl,rfl⟩
  ·have hval:=(show sd=1 by rw[Hsd.out];unfold sideE;rw[←Hon.out,if_pos (of_decide_eq_true HBb4.out.symm)])
   have HVAL:=Lib.hid hval
   clear hval
   go_wp2_with fail
   go_meet
   exact⟨by rw[HVAL.out],rfl⟩
 case rest=>
  obtain⟨rfl,rfl⟩:=hcut
  clear HBb4
  go_upto_region 22 with fail
  repeat (rename Value=>q9;revert q9)
  rename_i ye130_ ye131_ ye132_ ye133_
  revert w n m hn64 hm64 xa ya xc yc xs ys va wa vc wc qv qw hov how cz X Y V U HX HY HV HU ye10_ gX gY gV gU gn gm ye11_ Sb w4 j0 wr ra rc ye20_ ye21_ K hK12 HK HK2 o1 wc1 b0 b1 ye80_ wkb1 ow How s1 wc2 b2 ye100_ wkb2 on Hon b3 wk wkb3 hin hx hy hqv hqw hrow hM bx tw Htw b4 sd Hsd ye130_ ye131_ ye132_ ye133_
  exact Kcut.out
 ⟩
set_option maxRecDepth 100000 in
set_option maxHeartbeats 16000000 in
def errors21_any_q14:{P:Prop // P→errors21_any_q13.1}:=⟨_,fun Kcut=>by
 replace Kcut:Keep _:=⟨Kcut⟩
 intro w n m hn64 hm64 xa ya xc yc xs ys va wa vc wc qv qw hov how cz X Y V U HX HY HV HU ye10_ gX gY gV gU gn gm ye11_ Sb w4 j0 wr ra rc ye20_ ye21_ K hK12 HK HK2 o1 wc1 b0 b1 ye80_ wkb1 ow How s1 wc2 b2 ye100_ wkb2 on Hon b3 wk wkb3 hin hx hy hqv hqw hrow hM bx tw Htw b4 sd Hsd ye130_ ye131_ ye132_ ye133_
 intros
 obtain⟨b5,hb9⟩:∃ b:Bool,b=decide (on=0∧((V:Int)≠n∨(U:Int)≠n - X)):=⟨_,rfl⟩
 have HBb5:=Lib.hid hb9
 clear hb9
 go_cut [154] from 138 to 154 (fun v154 wx=>v154=.bool b5∧wkb3=wx)
 case first=>
  clear Kcut
  by_cases h0:on=0
  ·have k1:(on == 0)=true:=by simpa using h0
   have H0:=Lib.hid h0
   clear h0
   by_cases hv:(V:Int)=n
   ·have k2:((V:Int) != n)=false:=by simp[hv]
    have hw9:IntKind.i64.wrap (n - X)=n - X:=IntWalk.i64_in _ (by omega)
    have HVN:=Lib.hid hv
    clear hv
    by_cases hu:(U:Int)=n - X
    ·have k3:((U:Int) != n - X)=false:=by simp[hu]
     have HUN:=Lib.hid hu
     clear hu
     go_wp2_with fail
     go_meet
     exact⟨by rw[HBb5.out,decide_eq_false (fun h=>h.2.elim (fun g=>g HVN.out) (fun g=>g HUN.out))],rfl⟩
    ·have k3:((U:Int) != n - X)=true:=by simpa using hu
     have HUN:=Lib.hid hu
     clear hu
     go_wp2_with fail
     go_meet
     exact⟨by rw[HBb5.out,decide_eq_true ⟨H0.out,.inr HUN.out⟩],rfl⟩
   ·have k2:((V:Int) != n)=true:=by simpa using hv
    have HVN:=Lib.hid hv
    clear hv
    go_wp2_with fail
    go_meet
    exact⟨by rw[HBb5.out,decide_eq_true ⟨H0.out,.inl HVN.out⟩],rfl⟩
  ·have k1:(on == 0)=false:=by simpa using h0
   have H0:=Lib.hid h0
   clear h0
   go_wp2_with fail
   go_meet
   exact⟨by rw[HBb5.out,decide_eq_false (fun h=>H0.out h.1)],rfl⟩
 case rest=>
  obtain⟨rfl,rfl⟩:=hcut
  repeat (rename Value=>q9;revert q9)
  revert w n m hn64 hm64 xa ya xc yc xs ys va wa vc wc qv qw hov how cz X Y V U HX HY HV HU ye10_ gX gY gV gU gn gm ye11_ Sb w4 j0 wr ra rc ye20_ ye21_ K hK12 HK HK2 o1 wc1 b0 b1 ye80_ wkb1 ow How s1 wc2 b2 ye100_ wkb2 on Hon b3 wk wkb3 hin hx hy hqv hqw hrow hM bx tw Htw b4 sd Hsd ye130_ ye131_ ye132_ ye133_ b5 HBb5
  exact Kcut.out
 ⟩
set_option maxRecDepth 100000 in
set_option maxHeartbeats 16000000 in
def errors21_any_q15:{P:Prop // P→errors21_any_q14.1}:=⟨_,fun Kcut=>by
 replace Kcut:Keep _:=⟨Kcut⟩
 intro w n m hn64 hm64 xa ya xc yc xs ys va wa vc wc qv qw hov how cz X Y V U HX HY HV HU ye10_ gX gY gV gU gn gm ye11_ Sb w4 j0 wr ra rc ye20_ ye21_ K hK12 HK HK2 o1 wc1 b0 b1 ye80_ wkb1 ow How s1 wc2 b2 ye100_ wkb2 on Hon b3 wk wkb3 hin hx hy hqv hqw hrow hM bx tw Htw b4 sd Hsd ye130_ ye131_ ye132_ ye133_ b5 HBb5
 intros
 obtain⟨fr,hfr⟩:∃ z,z=farE n m xs V U:=⟨_,rfl⟩
 have Hfr:=Lib.hid hfr
 clear hfr
 go_upto_if 154 with fail
 go_cut [19] (fun v19 wx=>v19=.int .i64 fr∧wkb3=wx)
 case first=>
  clear Kcut
  rcases b5 with _ | _
  ·have hval:=(show fr=on by rw[Hfr.out];unfold farE;rw[←Hon.out,←HX.out,if_neg (of_decide_eq_false HBb5.out.symm)])
   have HVAL:=Lib.hid hval
   clear hval
   go_wp2_with fail
   go_meet
   exact⟨by first | rw[HVAL.out]| rfl,rfl⟩
  ·have hval:=(show fr=1 by rw[Hfr.out];unfold farE;rw[←Hon.out,←HX.out,if_pos (of_decide_eq_true HBb5.out.symm)])
   have HVAL:=Lib.hid hval
   clear hval
   go_wp2_with fail
   go_meet
   exact⟨by rw[HVAL.out],rfl⟩
 case rest=>
  obtain⟨rfl,rfl⟩:=hcut
  clear HBb5
  go_upto_region 24 with fail
  repeat (rename Value=>q9;revert q9)
  rename_i ye150_ ye151_ ye152_ ye153_
  revert w n m hn64 hm64 xa ya xc yc xs ys va wa vc wc qv qw hov how cz X Y V U HX HY HV HU ye10_ gX gY gV gU gn gm ye11_ Sb w4 j0 wr ra rc ye20_ ye21_ K hK12 HK HK2 o1 wc1 b0 b1 ye80_ wkb1 ow How s1 wc2 b2 ye100_ wkb2 on Hon b3 wk wkb3 hin hx hy hqv hqw hrow hM bx tw Htw b4 sd Hsd b5 fr Hfr ye150_ ye151_ ye152_ ye153_
  exact Kcut.out
 ⟩
set_option maxRecDepth 100000 in
set_option maxHeartbeats 16000000 in
def errors21_any_q16:{P:Prop // P→errors21_any_q15.1}:=⟨_,fun Kcut=>by
 replace Kcut:Keep _:=⟨Kcut⟩
 intro w n m hn64 hm64 xa ya xc yc xs ys va wa vc wc qv qw hov how cz X Y V U HX HY HV HU ye10_ gX gY gV gU gn gm ye11_ Sb w4 j0 wr ra rc ye20_ ye21_ K hK12 HK HK2 o1 wc1 b0 b1 ye80_ wkb1 ow How s1 wc2 b2 ye100_ wkb2 on Hon b3 wk wkb3 hin hx hy hqv hqw hrow hM bx tw Htw b4 sd Hsd b5 fr Hfr ye150_ ye151_ ye152_ ye153_
 intros
 obtain⟨b6,hb9⟩:∃ b:Bool,b=decide (tw=0∧(V:Int)≠n):=⟨_,rfl⟩
 have HBb6:=Lib.hid hb9
 clear hb9
 go_cut [162] from 155 to 162 (fun v162 wx=>v162=.bool b6∧wkb3=wx)
 case first=>
  clear Kcut
  by_cases h0:tw=0
  ·have k1:(tw == 0)=true:=by simpa using h0
   have H0:=Lib.hid h0
   clear h0
   by_cases hv:(V:Int)=n
   ·have k2:((V:Int) != n)=false:=by simp[hv]
    have HVN:=Lib.hid hv
    clear hv
    go_wp2_with fail
    go_meet
    exact⟨by rw[HBb6.out,decide_eq_false (fun h=>h.2 HVN.out)],rfl⟩
   ·have k2:((V:Int) != n)=true:=by simpa using hv
    have HVN:=Lib.hid hv
    clear hv
    go_wp2_with fail
    go_meet
    exact⟨by rw[HBb6.out,decide_eq_true ⟨H0.out,HVN.out⟩],rfl⟩
  ·have k1:(tw == 0)=false:=by simpa using h0
   have H0:=Lib.hid h0
   clear h0
   go_wp2_with fail
   go_meet
   exact⟨by rw[HBb6.out,decide_eq_false (fun h=>H0.out h.1)],rfl⟩
 case rest=>
  obtain⟨rfl,rfl⟩:=hcut
  repeat (rename Value=>q9;revert q9)
  revert w n m hn64 hm64 xa ya xc yc xs ys va wa vc wc qv qw hov how cz X Y V U HX HY HV HU ye10_ gX gY gV gU gn gm ye11_ Sb w4 j0 wr ra rc ye20_ ye21_ K hK12 HK HK2 o1 wc1 b0 b1 ye80_ wkb1 ow How s1 wc2 b2 ye100_ wkb2 on Hon b3 wk wkb3 hin hx hy hqv hqw hrow hM bx tw Htw b4 sd Hsd b5 fr Hfr ye150_ ye151_ ye152_ ye153_ b6 HBb6
  exact Kcut.out
 ⟩
set_option maxRecDepth 100000 in
set_option maxHeartbeats 16000000 in
def errors21_any_q17:{P:Prop // P→errors21_any_q16.1}:=⟨_,fun Kcut=>by
 replace Kcut:Keep _:=⟨Kcut⟩
 intro w n m hn64 hm64 xa ya xc yc xs ys va wa vc wc qv qw hov how cz X Y V U HX HY HV HU ye10_ gX gY gV gU gn gm ye11_ Sb w4 j0 wr ra rc ye20_ ye21_ K hK12 HK HK2 o1 wc1 b0 b1 ye80_ wkb1 ow How s1 wc2 b2 ye100_ wkb2 on Hon b3 wk wkb3 hin hx hy hqv hqw hrow hM bx tw Htw b4 sd Hsd b5 fr Hfr ye150_ ye151_ ye152_ ye153_ b6 HBb6
 intros
 obtain⟨ns,hns⟩:∃ z,z=twoE n m xs ys V:=⟨_,rfl⟩
 have Hns:=Lib.hid hns
 clear hns
 go_upto_if 162 with fail
 go_cut [20] (fun v20 wx=>v20=.int .i64 ns∧wkb3=wx)
 case first=>
  clear Kcut
  rcases b6 with _ | _
  ·have hval:=(show ns=tw by rw[Hns.out];unfold twoE;rw[←Htw.out,if_neg (of_decide_eq_false HBb6.out.symm)])
   have HVAL:=Lib.hid hval
   clear hval
   go_wp2_with fail
   go_meet
   exact⟨by first | rw[HVAL.out]| rfl,rfl⟩
  ·have hval:=(show ns=1 by rw[Hns.out];unfold twoE;rw[←Htw.out,if_pos (of_decide_eq_true HBb6.out.symm)])
   have HVAL:=Lib.hid hval
   clear hval
   go_wp2_with fail
   go_meet
   exact⟨by rw[HVAL.out],rfl⟩
 case rest=>
  obtain⟨rfl,rfl⟩:=hcut
  clear HBb6 HK hK12 gn gm
  go_upto_region 26 with fail
  repeat (rename Value=>q9;revert q9)
  rename_i ye170_ ye171_
  revert w n m hn64 hm64 xa ya xc yc xs ys va wa vc wc qv qw hov how cz X Y V U HX HY HV HU ye10_ gX gY gV gU ye11_ Sb w4 j0 wr ra rc ye20_ ye21_ K HK2 o1 wc1 b0 b1 ye80_ wkb1 ow How s1 wc2 b2 ye100_ wkb2 on Hon b3 wk wkb3 hin hx hy hqv hqw hrow hM bx tw Htw b4 sd Hsd b5 fr Hfr b6 ns Hns ye170_ ye171_
  exact Kcut.out
 ⟩
set_option maxRecDepth 100000 in
set_option maxHeartbeats 16000000 in
def errors21_any_q18:{P:Prop // P→errors21_any_q17.1}:=⟨_,fun Kcut=>by
 replace Kcut:Keep _:=⟨Kcut⟩
 intro w n m hn64 hm64 xa ya xc yc xs ys va wa vc wc qv qw hov how cz X Y V U HX HY HV HU ye10_ gX gY gV gU ye11_ Sb w4 j0 wr ra rc ye20_ ye21_ K HK2 o1 wc1 b0 b1 ye80_ wkb1 ow How s1 wc2 b2 ye100_ wkb2 on Hon b3 wk wkb3 hin hx hy hqv hqw hrow hM bx tw Htw b4 sd Hsd b5 fr Hfr b6 ns Hns ye170_ ye171_
 intros
 have c1:=lvec_any wkb3 va vc V qv hqv hov (by omega) (by rw[←HV.out];omega)
 rw[←HV.out] at c1
 (go_wp2_with fail;(((with_reducible refine(c1).mono ?_)));(rintro e wc3 ⟨⟨d,rfl,hvv⟩,hb⟩);clear c1 hqv;replace hin:=hin.call hb;replace hx:=hx.call hb;replace hy:=hy.call hb;replace hqw:=hqw.call hb;replace hrow:=hrow.call hb;replace hM:=hM.call hb;replace bx:=bx.call hb;clear hb)
 obtain⟨pa,pk,hpe⟩:=hvv.shape
 rw[mList_length] at hpe
 subst hpe
 replace hvv:VecAt wc3 (.slice pa V pk) (vl V (mEl qv)):=hvv
 have c1:=lvec_any wc3 wa wc U qw hqw how (by omega) (by rw[←HU.out];omega)
 rw[←HU.out] at c1
 (go_wp2_with fail;(((with_reducible refine(c1).mono ?_)));(rintro e wc4 ⟨⟨d,rfl,hvw⟩,hb⟩);clear c1 hqw;replace hin:=hin.call hb;replace hx:=hx.call hb;replace hy:=hy.call hb;replace hrow:=hrow.call hb;replace hM:=hM.call hb;replace hvv:=hvv.call hb;replace bx:=bx.call hb;clear hb)
 obtain⟨ta,tk,hte⟩:=hvw.shape
 rw[mList_length] at hte
 subst hte
 replace hvw:VecAt wc4 (.slice ta U tk) (vl U (mEl qw)):=hvw
 repeat (rename Value=>q9;revert q9)
 rename_i ye180_ ye181_
 revert w n m hn64 hm64 xa ya xc yc xs ys va wa vc wc qv qw hov how cz X Y V U HX HY HV HU ye10_ gX gY gV gU ye11_ Sb w4 j0 wr ra rc ye20_ ye21_ K HK2 o1 wc1 b0 b1 ye80_ wkb1 ow How s1 wc2 b2 ye100_ wkb2 on Hon b3 wk wkb3 tw Htw b4 sd Hsd b5 fr Hfr b6 ns Hns ye170_ ye171_ wc3 pa pk ye180_ ye181_ wc4 hin hx hy hrow hM hvv bx ta tk hvw
 exact Kcut.out
 ⟩
set_option maxRecDepth 100000 in
set_option maxHeartbeats 16000000 in
def errors21_any_q19:{P:Prop // P→errors21_any_q18.1}:=⟨_,fun Kcut=>by
 replace Kcut:Keep _:=⟨Kcut⟩
 intro w n m hn64 hm64 xa ya xc yc xs ys va wa vc wc qv qw hov how cz X Y V U HX HY HV HU ye10_ gX gY gV gU ye11_ Sb w4 j0 wr ra rc ye20_ ye21_ K HK2 o1 wc1 b0 b1 ye80_ wkb1 ow How s1 wc2 b2 ye100_ wkb2 on Hon b3 wk wkb3 tw Htw b4 sd Hsd b5 fr Hfr b6 ns Hns ye170_ ye171_ wc3 pa pk ye180_ ye181_ wc4 hin hx hy hrow hM hvv bx ta tk hvw
 intros
 have c2:=outer_view wc4 n xa xc xs hx (by rw[←HX.out];omega)
 rw[←HX.out,←How.out] at c2
 (go_wp2_with fail;(((with_reducible refine(c2).mono ?_)));(rintro e wc5 ⟨⟨oa,ol,ok,rfl,hol⟩,hb⟩);clear c2;replace hin:=hin.call hb;replace hx:=hx.call hb;replace hy:=hy.call hb;replace hrow:=hrow.call hb;replace hM:=hM.call hb;replace hvv:=hvv.call hb;replace hvw:=hvw.call hb;replace bx:=bx.call hb;clear hb)
 have HOL:=Lib.hid hol
 clear hol
 have c3:=compl_view hM xa xc xs hx (by rw[←HX.out];omega)
 rw[←HX.out,←Hon.out] at c3
 (have s0:=bx.c0;have s1:=bx.c1;have s2:=bx.c2;have sl:=bx.lt)
 (go_wp2_with fail;(((with_reducible refine(c3).mono ?_)));(rintro e wc6 ⟨⟨cr,cc,ca,cl,ck,cE,rfl,hg1,hz1⟩,hb⟩);clear s0 s1 s2 sl c3;replace hin:=hin.call hb;replace hx:=hx.call hb;replace hy:=hy.call hb;replace hrow:=hrow.call hb;replace hM:=hM.call hb;replace hvv:=hvv.call hb;replace hvw:=hvw.call hb;replace bx:=bx.call hb;clear hb)
 have HG1:=Lib.hid hg1
 have HZ1:=Lib.hid hz1
 clear hg1 hz1
 go_upto_region 29 with fail
 ((obtain⟨C,hC⟩:∃ z,z=wc6.heap.size:=⟨_,rfl⟩);(have bC:=Bx.new_at wc6 #[.int .i64 cr,.int .i64 cc,.slice ca cl ck] 37 hC);(replace hin:=hin.alloc (.cells #[.int .i64 cr,.int .i64 cc,.slice ca cl ck] 37));(replace bx:=bx.alloc (.cells #[.int .i64 cr,.int .i64 cc,.slice ca cl ck] 37));(replace hx:=hx.call ((Below.refl _ _).alloc (Nat.le_refl _) (.cells #[.int .i64 cr,.int .i64 cc,.slice ca cl ck] 37)));(replace hy:=hy.call ((Below.refl _ _).alloc (Nat.le_refl _) (.cells #[.int .i64 cr,.int .i64 cc,.slice ca cl ck] 37)));(replace hrow:=hrow.call ((Below.refl _ _).alloc (Nat.le_refl _) (.cells #[.int .i64 cr,.int .i64 cc,.slice ca cl ck] 37)));(replace hM:=hM.call ((Below.refl _ _).alloc (Nat.le_refl _) (.cells #[.int .i64 cr,.int .i64 cc,.slice ca cl ck] 37)));(replace hvv:=hvv.call ((Below.refl _ _).alloc (Nat.le_refl _) (.cells #[.int .i64 cr,.int .i64 cc,.slice ca cl ck] 37)));(replace hvw:=hvw.call ((Below.refl _ _).alloc (Nat.le_refl _) (.cells #[.int .i64 cr,.int .i64 cc,.slice ca cl ck] 37)));(rw[←hC]);clear hC;(generalize wc6.alloc (.cells #[.int .i64 cr,.int .i64 cc,.slice ca cl ck] 37)=W7 at *))
 have c4:=red_view hM xa xc xs hx (by rw[←HX.out];omega) pa V pk (mEl qv) hvv (fun i=>mEl_sz64 hov i) gV
 rw[←HX.out,←Hsd.out] at c4
 (have s0:=bx.c0;have s1:=bx.c1;have s2:=bx.c2;have sl:=bx.lt)
 (go_wp2_with fail;(((with_reducible refine(c4).mono ?_)));(rintro e wc8 ⟨⟨dr,dc,da,dl,dk,ea,el,ek,dE,rfl,hg2,hz2⟩,hb⟩);clear s0 s1 s2 sl c4;replace hin:=hin.call hb;replace hx:=hx.call hb;replace hy:=hy.call hb;replace hrow:=hrow.call hb;replace hM:=hM.call hb;replace hvv:=hvv.call hb;replace hvw:=hvw.call hb;replace bx:=bx.call hb;replace bC:=bC.call hb;clear hb)
 have HG2:=Lib.hid hg2
 have HZ2:=Lib.hid hz2
 clear hg2 hz2
 go_upto_region 30 with fail
 ((obtain⟨D,hD⟩:∃ z,z=wc8.heap.size:=⟨_,rfl⟩);(have bD:=Bx.new_at wc8 #[.int .i64 dr,.int .i64 dc,.slice da dl dk] 37 hD);(replace hin:=hin.alloc (.cells #[.int .i64 dr,.int .i64 dc,.slice da dl dk] 37));(replace bx:=bx.alloc (.cells #[.int .i64 dr,.int .i64 dc,.slice da dl dk] 37));(replace bC:=bC.alloc (.cells #[.int .i64 dr,.int .i64 dc,.slice da dl dk] 37));(replace hx:=hx.call ((Below.refl _ _).alloc (Nat.le_refl _) (.cells #[.int .i64 dr,.int .i64 dc,.slice da dl dk] 37)));(replace hy:=hy.call ((Below.refl _ _).alloc (Nat.le_refl _) (.cells #[.int .i64 dr,.int .i64 dc,.slice da dl dk] 37)));(replace hrow:=hrow.call ((Below.refl _ _).alloc (Nat.le_refl _) (.cells #[.int .i64 dr,.int .i64 dc,.slice da dl dk] 37)));(replace hM:=hM.call ((Below.refl _ _).alloc (Nat.le_refl _) (.cells #[.int .i64 dr,.int .i64 dc,.slice da dl dk] 37)));(replace hvv:=hvv.call ((Below.refl _ _).alloc (Nat.le_refl _) (.cells #[.int .i64 dr,.int .i64 dc,.slice da dl dk] 37)));(replace hvw:=hvw.call ((Below.refl _ _).alloc (Nat.le_refl _) (.cells #[.int .i64 dr,.int .i64 dc,.slice da dl dk] 37)));(rw[←hD]);clear hD;(generalize wc8.alloc (.cells #[.int .i64 dr,.int .i64 dc,.slice da dl dk] 37)=W9 at *))
 repeat (rename Value=>q9;revert q9)
 rename_i ye190_ ye191_
 revert w n m hn64 hm64 xa ya xc yc xs ys va wa vc wc qv qw hov how cz X Y V U HX HY HV HU ye10_ gX gY gV gU ye11_ Sb w4 j0 wr ra rc ye20_ ye21_ K HK2 o1 wc1 b0 b1 ye80_ wkb1 ow How s1 wc2 b2 ye100_ wkb2 on Hon b3 wk wkb3 tw Htw b4 sd Hsd b5 fr Hfr b6 ns Hns wc3 pa pk wc4 ta tk wc5 oa ol ok HOL wc6 cr cc ca cl ck cE HG1 HZ1 C W7 wc8 dr dc da dl dk ea el ek dE HG2 HZ2 ye190_ ye191_ D W9 bD hin bx bC hx hy hrow hM hvv hvw
 exact Kcut.out
 ⟩
set_option maxRecDepth 100000 in
set_option maxHeartbeats 16000000 in
def errors21_any_q20:{P:Prop // P→errors21_any_q19.1}:=⟨_,fun Kcut=>by
 replace Kcut:Keep _:=⟨Kcut⟩
 intro w n m hn64 hm64 xa ya xc yc xs ys va wa vc wc qv qw hov how cz X Y V U HX HY HV HU ye10_ gX gY gV gU ye11_ Sb w4 j0 wr ra rc ye20_ ye21_ K HK2 o1 wc1 b0 b1 ye80_ wkb1 ow How s1 wc2 b2 ye100_ wkb2 on Hon b3 wk wkb3 tw Htw b4 sd Hsd b5 fr Hfr b6 ns Hns wc3 pa pk wc4 ta tk wc5 oa ol ok HOL wc6 cr cc ca cl ck cE HG1 HZ1 C W7 wc8 dr dc da dl dk ea el ek dE HG2 HZ2 ye190_ ye191_ D W9 bD hin bx bC hx hy hrow hM hvv hvw
 intros
 have c5:=ext_view hM xa xc xs hx (by rw[←HX.out];omega) pa V pk (mEl qv) hvv (fun i=>mEl_sz64 hov i) gV ta U tk (mEl qw) hvw (fun i=>mEl_sz64 how i) gU
 rw[←HX.out,←Hfr.out] at c5
 (have s0:=bx.c0;have s1:=bx.c1;have s2:=bx.c2;have sl:=bx.lt)
 (go_wp2_with fail;(((with_reducible refine(c5).mono ?_)));(rintro e wc10 ⟨⟨fa,fl,fk,fE,rfl,hg3,hz3⟩,hb⟩);clear s0 s1 s2 sl c5;replace hin:=hin.call hb;replace hx:=hx.call hb;replace hy:=hy.call hb;replace hrow:=hrow.call hb;replace hM:=hM.call hb;replace hvv:=hvv.call hb;replace hvw:=hvw.call hb;replace bx:=bx.call hb;replace bC:=bC.call hb;replace bD:=bD.call hb;clear hb)
 have HG3:=Lib.hid hg3
 have HZ3:=Lib.hid hz3
 clear hg3 hz3
 have c6:=solve_view hM xa xc xs hx (by rw[←HX.out];omega) pa V pk (mEl qv) hvv (fun i=>mEl_sz64 hov i) gV
 rw[←HX.out,←Hsd.out] at c6
 (have s0:=bx.c0;have s1:=bx.c1;have s2:=bx.c2;have sl:=bx.lt)
 (go_wp2_with fail;(((with_reducible refine(c6).mono ?_)));(rintro e wc11 ⟨⟨ia,il,ik,iE,rfl,hg4,hz4⟩,hb⟩);clear s0 s1 s2 sl c6;replace hin:=hin.call hb;replace hx:=hx.call hb;replace hy:=hy.call hb;replace hrow:=hrow.call hb;replace hM:=hM.call hb;replace hvv:=hvv.call hb;replace hvw:=hvw.call hb;replace bx:=bx.call hb;replace bC:=bC.call hb;replace bD:=bD.call hb;clear hb)
 have HG4:=Lib.hid hg4
 have HZ4:=Lib.hid hz4
 clear hg4 hz4
 go_upto_region 32 with fail
 (have s0:=bx.c0;have s1:=bx.c1;have s2:=bx.c2;have sl:=bx.lt)
 go_wp2_with fail
 ((obtain⟨GB,hGB⟩:∃ z,z=wc11.heap.size:=⟨_,rfl⟩);(have bGB:=Bx.new_at wc11 #[.slice xa X xc,.slice ya Y yc] 22 hGB);clear s0 s1 s2 sl;(replace hin:=hin.alloc (.cells #[.slice xa X xc,.slice ya Y yc] 22));(replace bx:=bx.alloc (.cells #[.slice xa X xc,.slice ya Y yc] 22));(replace bC:=bC.alloc (.cells #[.slice xa X xc,.slice ya Y yc] 22));(replace bD:=bD.alloc (.cells #[.slice xa X xc,.slice ya Y yc] 22));(replace hx:=hx.call ((Below.refl _ _).alloc (Nat.le_refl _) (.cells #[.slice xa X xc,.slice ya Y yc] 22)));(replace hy:=hy.call ((Below.refl _ _).alloc (Nat.le_refl _) (.cells #[.slice xa X xc,.slice ya Y yc] 22)));(replace hrow:=hrow.call ((Below.refl _ _).alloc (Nat.le_refl _) (.cells #[.slice xa X xc,.slice ya Y yc] 22)));(replace hM:=hM.call ((Below.refl _ _).alloc (Nat.le_refl _) (.cells #[.slice xa X xc,.slice ya Y yc] 22)));(replace hvv:=hvv.call ((Below.refl _ _).alloc (Nat.le_refl _) (.cells #[.slice xa X xc,.slice ya Y yc] 22)));(replace hvw:=hvw.call ((Below.refl _ _).alloc (Nat.le_refl _) (.cells #[.slice xa X xc,.slice ya Y yc] 22)));(rw[←hGB]);clear hGB;(generalize wc11.alloc (.cells #[.slice xa X xc,.slice ya Y yc] 22)=W12 at *))
 have hgs:GsAt W12 (.slice (some ⟨GB,0,none⟩) 2 2) [xs,ys]:=gs_pairZ (by rw[←HX.out,←HY.out];exact bGB) hx hy
 have c7:=nested_view hM (some ⟨GB,0,none⟩) xs ys hgs (by rw[←HX.out];omega) (by rw[←HY.out];omega) pa V pk (mEl qv) hvv (fun i=>mEl_sz64 hov i) gV
 rw[←Hns.out] at c7
 (have s0:=bx.c0;have s1:=bx.c1;have s2:=bx.c2;have sl:=bx.lt)
 ((((with_reducible refine(c7).mono ?_)));(rintro e wc13 ⟨⟨ja,jl,jk,jE,rfl,hg5,hz5⟩,hb⟩);clear s0 s1 s2 sl c7 hgs;replace hin:=hin.call hb;replace hx:=hx.call hb;replace hy:=hy.call hb;replace hrow:=hrow.call hb;replace hM:=hM.call hb;replace hvv:=hvv.call hb;replace hvw:=hvw.call hb;replace bx:=bx.call hb;replace bC:=bC.call hb;replace bD:=bD.call hb;replace bGB:=bGB.call hb;clear hb)
 have HG5:=Lib.hid hg5
 have HZ5:=Lib.hid hz5
 clear hg5 hz5
 go_upto_region 33 with fail
 repeat (rename Value=>q9;revert q9)
 rename_i ye200_ ye201_ ye202_ ye203_
 revert w n m hn64 hm64 xa ya xc yc xs ys va wa vc wc qv qw hov how cz X Y V U HX HY HV HU ye10_ gX gY gV gU ye11_ Sb w4 j0 wr ra rc ye20_ ye21_ K HK2 o1 wc1 b0 b1 ye80_ wkb1 ow How s1 wc2 b2 ye100_ wkb2 on Hon b3 wk wkb3 tw Htw b4 sd Hsd b5 fr Hfr b6 ns Hns wc3 pa pk wc4 ta tk wc5 oa ol ok HOL wc6 cr cc ca cl ck cE HG1 HZ1 C W7 wc8 dr dc da dl dk ea el ek dE HG2 HZ2 D W9 wc10 fa fl fk fE HG3 HZ3 wc11 ia il ik iE HG4 HZ4 GB W12 wc13 ja jl jk jE hin hx hy hrow hM hvv hvw bx bC bD bGB HG5 HZ5 ye200_ ye201_ ye202_ ye203_
 exact Kcut.out
 ⟩
set_option maxRecDepth 100000 in
set_option maxHeartbeats 16000000 in
def errors21_any_q21:{P:Prop // P→errors21_any_q20.1}:=⟨_,fun Kcut=>by
 replace Kcut:Keep _:=⟨Kcut⟩
 intro w n m hn64 hm64 xa ya xc yc xs ys va wa vc wc qv qw hov how cz X Y V U HX HY HV HU ye10_ gX gY gV gU ye11_ Sb w4 j0 wr ra rc ye20_ ye21_ K HK2 o1 wc1 b0 b1 ye80_ wkb1 ow How s1 wc2 b2 ye100_ wkb2 on Hon b3 wk wkb3 tw Htw b4 sd Hsd b5 fr Hfr b6 ns Hns wc3 pa pk wc4 ta tk wc5 oa ol ok HOL wc6 cr cc ca cl ck cE HG1 HZ1 C W7 wc8 dr dc da dl dk ea el ek dE HG2 HZ2 D W9 wc10 fa fl fk fE HG3 HZ3 wc11 ia il ik iE HG4 HZ4 GB W12 wc13 ja jl jk jE hin hx hy hrow hM hvv hvw bx bC bD bGB HG5 HZ5 ye200_ ye201_ ye202_ ye203_
 intros
 have cg:=goes21_any wc13 cE on HG1.out
 (go_wp2_with fail;(((with_reducible refine(cg).mono ?_)));rintro e wc14 ⟨rfl,hb⟩;clear cg;replace hin:=hin.call hb;replace hx:=hx.call hb;replace hy:=hy.call hb;replace hrow:=hrow.call hb;replace hM:=hM.call hb;replace hvv:=hvv.call hb;replace hvw:=hvw.call hb;replace bx:=bx.call hb;replace bC:=bC.call hb;replace bD:=bD.call hb;replace bGB:=bGB.call hb;clear hb)
 have cg:=goes21_any wc14 dE sd HG2.out
 (go_wp2_with fail;(((with_reducible refine(cg).mono ?_)));rintro e wc15 ⟨rfl,hb⟩;clear cg;replace hin:=hin.call hb;replace hx:=hx.call hb;replace hy:=hy.call hb;replace hrow:=hrow.call hb;replace hM:=hM.call hb;replace hvv:=hvv.call hb;replace hvw:=hvw.call hb;replace bx:=bx.call hb;replace bC:=bC.call hb;replace bD:=bD.call hb;replace bGB:=bGB.call hb;clear hb)
 have cg:=goes21_any wc15 fE fr HG3.out
 (go_wp2_with fail;(((with_reducible refine(cg).mono ?_)));rintro e wc16 ⟨rfl,hb⟩;clear cg;replace hin:=hin.call hb;replace hx:=hx.call hb;replace hy:=hy.call hb;replace hrow:=hrow.call hb;replace hM:=hM.call hb;replace hvv:=hvv.call hb;replace hvw:=hvw.call hb;replace bx:=bx.call hb;replace bC:=bC.call hb;replace bD:=bD.call hb;replace bGB:=bGB.call hb;clear hb)
 have cg:=goes21_any wc16 iE sd HG4.out
 (go_wp2_with fail;(((with_reducible refine(cg).mono ?_)));rintro e wc17 ⟨rfl,hb⟩;clear cg;replace hin:=hin.call hb;replace hx:=hx.call hb;replace hy:=hy.call hb;replace hrow:=hrow.call hb;replace hM:=hM.call hb;replace hvv:=hvv.call hb;replace hvw:=hvw.call hb;replace bx:=bx.call hb;replace bC:=bC.call hb;replace bD:=bD.call hb;replace bGB:=bGB.call hb;clear hb)
 have cg:=goes21_any wc17 jE ns HG5.out
 (go_wp2_with fail;(((with_reducible refine(cg).mono ?_)));rintro e wc18 ⟨rfl,hb⟩;clear cg;replace hin:=hin.call hb;replace hx:=hx.call hb;replace hy:=hy.call hb;replace hrow:=hrow.call hb;replace hM:=hM.call hb;replace hvv:=hvv.call hb;replace hvw:=hvw.call hb;replace bx:=bx.call hb;replace bC:=bC.call hb;replace bD:=bD.call hb;replace bGB:=bGB.call hb;clear hb)
 go_upto_region 35 with fail
 repeat (rename Value=>q9;revert q9)
 rename_i ye210_ ye211_
 revert w n m hn64 hm64 xa ya xc yc xs ys va wa vc wc qv qw hov how cz X Y V U HX HY HV HU ye10_ gX gY gV gU ye11_ Sb w4 j0 wr ra rc ye20_ ye21_ K HK2 o1 wc1 b0 b1 ye80_ wkb1 ow How s1 wc2 b2 ye100_ wkb2 on Hon b3 wk wkb3 tw Htw b4 sd Hsd b5 fr Hfr b6 ns Hns wc3 pa pk wc4 ta tk wc5 oa ol ok HOL wc6 cr cc ca cl ck cE HG1 HZ1 C W7 wc8 dr dc da dl dk ea el ek dE HG2 HZ2 D W9 wc10 fa fl fk fE HG3 HZ3 wc11 ia il ik iE HG4 HZ4 GB W12 wc13 ja jl jk jE HG5 HZ5 wc14 wc15 wc16 wc17 wc18 hin hx hy hrow hM hvv hvw bx bC bD bGB ye210_ ye211_
 exact Kcut.out
 ⟩
end Gus
end
