/- Proved here: parts of the proof: KSrp. Conditions: those that each theorem states. -/
import Derived.Test.YthblojaeoiemmaaGreatDoorKSrpBQ
section
namespace Gus
open Go Go.RowKit Go.Proofs
set_option maxRecDepth 100000 in
set_option maxHeartbeats 16000000 in
theorem errors21_any_q22:errors21_any_q21.1:=by
 intro w n m hn64 hm64 xa ya xc yc xs ys va wa vc wc qv qw hov how cz X Y V U HX HY HV HU ye10_ gX gY gV gU ye11_ Sb w4 j0 wr ra rc ye20_ ye21_ K HK2 o1 wc1 b0 b1 ye80_ wkb1 ow How s1 wc2 b2 ye100_ wkb2 on Hon b3 wk wkb3 tw Htw b4 sd Hsd b5 fr Hfr b6 ns Hns wc3 pa pk wc4 ta tk wc5 oa ol ok HOL wc6 cr cc ca cl ck cE HG1 HZ1 C W7 wc8 dr dc da dl dk ea el ek dE HG2 HZ2 D W9 wc10 fa fl fk fE HG3 HZ3 wc11 ia il ik iE HG4 HZ4 GB W12 wc13 ja jl jk jE HG5 HZ5 wc14 wc15 wc16 wc17 wc18 hin hx hy hrow hM hvv hvw bx bC bD bGB ye210_ ye211_
 intros
 (have c0:=bC.c0;have c1:=bC.c1;have c2:=bC.c2;have cl:=bC.lt)
 (have d0:=bD.c0;have d1:=bD.c1;have d2:=bD.c2;have dl:=bD.lt)
 have cz2:=cz wc18
 have hbel:=hin.bel
 clear hin
 refine wp_region_lit ?_
 refine wpList_conj8 248 249 250 251 252 253 254 255 ?_ ?_
 ·rcases dec_or HOL.out with k0 |⟨k0,rfl⟩ <;> (clear hbel cz2;go_wp2_with fail)
 intro v248 v249 v250 v251 v252 v253 v254 A0 hA0
 simp only[Act.put,List.setIfInBounds_toArray,List.set] at hA0
 refine wpList_conj15 256 257 258 259 260 261 262 263 264 265 266 267 268 269 270 ?_ ?_
 ·subst hA0;rcases dec_or HZ1.out with k1 |⟨k1,rfl,rfl⟩ <;> (clear hbel cz2;go_wp2_with fail)
 intro v256 v257 v258 v259 v260 v261 v262 v263 v264 v265 v266 v267 v268 v269 A1 hA1
 subst hA0
 simp only[Act.put,List.setIfInBounds_toArray,List.set] at hA1
 refine wpList_conj13 271 272 273 274 275 276 277 278 279 280 281 282 283 ?_ ?_
 ·subst hA1;rcases dec_or HZ2.out with k2 |⟨k2,rfl,rfl⟩ <;> (clear hbel cz2;go_wp2_with fail)
 intro v271 v272 v273 v274 v275 v276 v277 v278 v279 v280 v281 v282 A2 hA2
 subst hA1
 simp only[Act.put,List.setIfInBounds_toArray,List.set] at hA2
 refine wpList_conj9 284 285 286 287 288 289 290 291 292 ?_ ?_
 ·subst hA2;rcases dec_or HZ3.out with k3 |⟨k3,rfl⟩ <;> (clear hbel cz2;go_wp2_with fail)
 intro v284 v285 v286 v287 v288 v289 v290 v291 A3 hA3
 subst hA2
 simp only[Act.put,List.setIfInBounds_toArray,List.set] at hA3
 refine wpList_conj9 293 294 295 296 297 298 299 300 301 ?_ ?_
 ·subst hA3;rcases dec_or HZ4.out with k4 |⟨k4,rfl⟩ <;> (clear hbel cz2;go_wp2_with fail)
 intro v293 v294 v295 v296 v297 v298 v299 v300 A4 hA4
 subst hA3
 simp only[Act.put,List.setIfInBounds_toArray,List.set] at hA4
 refine wpList_conj9 302 303 304 305 306 307 308 309 310 ?_ ?_
 ·subst hA4;rcases dec_or HZ5.out with k5 |⟨k5,rfl⟩ <;> (clear hbel cz2;go_wp2_with fail)
 intro v302 v303 v304 v305 v306 v307 v308 v309 A5 hA5
 subst hA4
 simp only[Act.put,List.setIfInBounds_toArray,List.set] at hA5
 subst hA5
 go_wp2_with fail
 (with_reducible refine cz2.mono ?_)
 rintro e w99 ⟨rfl,hb⟩
 have hbel2:=Below.trans hbel (hb.mono hbel.size)
 clear hb cz2
 go_wp2_with fail
 go_ret
 exact⟨rfl,hbel2⟩
set_option maxRecDepth 100000 in
set_option maxHeartbeats 16000000 in
theorem errors21_any (w:World) (n m:Int) (hn64:-9223372036854775808≤n∧n<9223372036854775808) (hm64:-9223372036854775808≤m∧m<9223372036854775808) (xa ya:Option Addr) (xc yc:Nat) (xs ys:List Int) (hx:IntsAt w xa xs) (hy:IntsAt w ya ys) (hxb:∀ i∈xs,-9223372036854775808≤i∧i<9223372036854775808) (hyb:∀ i∈ys,-9223372036854775808≤i∧i<9223372036854775808) (hLx:xs.length≤maxLen) (hLy:ys.length≤maxLen) (va wa:Option Addr) (vc wc:Nat) (qv qw:List (Int×Int)) (hqv:QAt w va qv) (hqw:QAt w wa qw) (hov:QOk qv) (how:QOk qw) (hLv:qv.length≤maxLen) (hLw:qw.length≤maxLen) :
  Calls Tryz.prog 3 #[.int .i64 n,.int .i64 m,.slice xa xs.length xc,.slice ya ys.length yc,.slice va qv.length vc,.slice wa qw.length wc] w fun e w'=>e=.returned (.bool true)∧Below w.heap.size w w':=(errors21_any_q1.2 (errors21_any_q2.2 (errors21_any_q3.2 (errors21_any_q4.2 (errors21_any_q5.2 (errors21_any_q6.2 (errors21_any_q7.2 (errors21_any_q8.2 (errors21_any_q9.2 (errors21_any_q10.2 (errors21_any_q11.2 (errors21_any_q12.2 (errors21_any_q13.2 (errors21_any_q14.2 (errors21_any_q15.2 (errors21_any_q16.2 (errors21_any_q17.2 (errors21_any_q18.2 (errors21_any_q19.2 (errors21_any_q20.2 (errors21_any_q21.2 errors21_any_q22))))))))))))))))))))) w n m hn64 hm64 xa ya xc yc xs ys hx hy hxb hyb hLx hLy va wa vc wc qv qw hqv hqw hov how hLv hLw
end Gus
end
