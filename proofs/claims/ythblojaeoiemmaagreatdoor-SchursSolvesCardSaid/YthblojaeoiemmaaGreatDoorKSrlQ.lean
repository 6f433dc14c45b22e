/- Proved here: parts of the proof: KSrl KSrh KSrq. Conditions: those that each theorem states. -/
import Derived.Test.YthblojaeoiemmaaGreatDoorKSrkQ
import Derived.Test.YthblojaeoiemmaaGreatDoorKSrgQ
section
namespace Gus
open Go Go.RowKit Go.Proofs
theorem p12 {a:Nat} (h:a≤12):5 ^ a≤244140625:=Nat.le_trans (Nat.pow_le_pow_right (by decide) h) (by decide)
end Gus
end
section
namespace Gus
open Go Go.RowKit Go.Proofs
def LnAt (w:World) (a:Option Addr) (ls:List Nat):Prop:=∀ i,i<ls.length→∃ b off va vc,a=some ⟨b,off,none⟩∧b<w.heap.size∧w.cell? ⟨b,off+i,none⟩=some (.slice va (ls.getD i 0) vc)
def small21 (L K:Nat) (ls:List Nat):Bool:=ls.all (fun x=>decide (x≤12)) && (decide (L≤40) && decide (K≤12))
set_option maxRecDepth 100000 in
set_option maxHeartbeats 4000000 in
theorem small21_any (w:World) (N:Int) (la:Option Addr) (L lc:Nat) (ka:Option Addr) (K kc:Nat) (va:Option Addr) (vc:Nat) (ls:List Nat) (hv:LnAt w va ls) (hv2:ls.length≤4096) :
  Calls Tryz.prog 20 #[.agg #[.int .u8 N,.slice la L lc],.slice ka K kc,.slice va ls.length vc] w fun e w'=>e=.returned (.bool (small21 L K ls))∧Below w.heap.size w w':=by
 obtain⟨R,hR⟩:∃ R,R=small21 L K ls:=⟨_,rfl⟩
 obtain⟨P,hP⟩:∃ P,P=ls.length:=⟨_,rfl⟩
 rw[←hR,←hP]
 rw[←hP] at hv2
 unfold small21 at hR
 have HR:=Lib.hid hR
 have HP:=Lib.hid hP
 have HV:=Lib.hid hv
 clear hR hP hv
 go_enter Tryz.func20,Tryz.ntmps20
 go_upto_region 1 with fail
 ((obtain⟨X,hXX⟩:∃ z,z=w.heap.size:=⟨_,rfl⟩);(have bV0:=(Bx.new_at w #[.int .u8 N,.slice la L lc] 51 (n:=X) (by simp[hXX])));(have hV:=((In.self w).alloc (.cells #[.int .u8 N,.slice la L lc] 51)));(rw[←hXX] at hV ⊢);(have HX:=Lib.hid hXX);clear hXX;(generalize w.alloc (.cells #[.int .u8 N,.slice la L lc] 51)=V at *))
 have x0:=bV0.c0;have x1:=bV0.c1;have xl:=bV0.lt
 go_wp2_with fail
 go_loopw [7] (fun v7 wr=>∃ i:Nat,i≤P∧v7=.int .i64 i∧In X w wr∧Bx wr X 51 [.int .u8 N,.slice la L lc]∧Hid (ls.all (fun x=>decide (x≤12))=(ls.drop i).all (fun x=>decide (x≤12)))) (fun v7 _=>P - (RowKit.intOf v7).toNat)
 case atStart=>exact⟨0,Nat.zero_le _,rfl,hV,bV0,Lib.hid rfl⟩
 case round=>
  obtain⟨i,hi,rfl,hin,bx,HA⟩:=hrel
  clear x0 x1 xl bV0 hV
  by_cases hiP:i<P
  ·obtain⟨b,off,y,yc,rfl,hb,hc⟩:=HV.out i (by rw[←HP.out];exact hiP)
   have hd:=drop_getD ls 0 (show i<ls.length by rw[←HP.out];exact hiP)
   obtain⟨x,hx⟩:∃ x,x=ls.getD i 0:=⟨_,rfl⟩
   rw[←hx] at hd hc
   rw[←hin.cell b _ (by rw[HX.out];exact hb)] at hc
   have ha:=HA.out
   rw[hd,List.all_cons] at ha
   have HAA:=Lib.hid ha
   have hiI:(i:Int)<P:=by omega
   have hi0:(0:Int)≤i:=by omega
   have hbw:b<wr.heap.size:=by have:=hin.siz;rw[HX.out] at this;omega
   have hiw:IntKind.i64.wrap ((i:Int)+1)=((i+1:Nat):Int):=IntWalk.i64_in _ (by omega)
   have x0:=bx.c0;have x1:=bx.c1;have xl:=bx.lt
   clear hd hx ha HA hb
   by_cases h12:x≤12
   ·have h12I:¬ (12:Int)<x:=by omega
    have HT:=Lib.hid (decide_eq_true h12)
    clear h12
    go_wp2_with fail
    exact⟨⟨i+1,by omega,by go_num,hin,bx,Lib.hid (by rw[HAA.out,HT.out,Bool.true_and])⟩,by simp[RowKit.intOf];omega⟩
   ·have h12I:(12:Int)<x:=by omega
    have HT:=Lib.hid (decide_eq_false h12)
    clear h12
    go_wp2_with fail
    go_ret
    exact⟨(show Ending.returned (.bool false)=.returned (.bool R) by rw[HR.out,HAA.out,HT.out,Bool.false_and,Bool.false_and]),by rw[←HX.out];exact hin.bel⟩
  ·have hiI:¬ (i:Int)<P:=by omega
   have ha:=HA.out
   rw[List.drop_eq_nil_of_le (by rw[←HP.out];omega)] at ha
   have hr2:=HR.out
   rw[ha,List.all_nil,Bool.true_and] at hr2
   have x0:=bx.c0;have x1:=bx.c1;have xl:=bx.lt
   have hbel:=hin.bel
   rw[HX.out] at hbel
   by_cases h40:L≤40
   ·have k40:(L:Int)≤40:=by omega
    by_cases hk12:K≤12
    ·have k12:(K:Int)≤12:=by omega
     rw[decide_eq_true h40,decide_eq_true hk12] at hr2
     subst hr2
     clear ha HA HR h40 hk12
     go_wp2_with fail
     go_ret
     exact⟨rfl,hbel⟩
    ·have k12:¬ (K:Int)≤12:=by omega
     rw[decide_eq_true h40,decide_eq_false hk12] at hr2
     subst hr2
     clear ha HA HR h40 hk12
     go_wp2_with fail
     go_ret
     exact⟨rfl,hbel⟩
   ·have k40:¬ (L:Int)≤40:=by omega
    rw[decide_eq_false h40] at hr2
    subst hr2
    clear ha HA HR h40
    go_wp2_with fail
    go_ret
    exact⟨rfl,hbel⟩
end Gus
end
section
namespace Gus
open Go Go.RowKit Go.Proofs
theorem ln_one {w:World} {V:Nat} {ba:Option Addr} {bc l:Nat} (h:Bx w V 23 [.slice ba l bc]):LnAt w (some ⟨V,0,none⟩) [l]:=fun i hi=>by
 obtain rfl:i=0:=by simp at hi;omega
 exact⟨V,0,ba,bc,rfl,h.lt,h.c0⟩
theorem ln_two {w:World} {V:Nat} {ba sa:Option Addr} {bc sc l m:Nat} (h:Bx w V 23 [.slice ba l bc,.slice sa m sc]):LnAt w (some ⟨V,0,none⟩) [l,m]:=fun i hi=>by
 have h2:i=0∨i=1:=by simp at hi;omega
 rcases h2 with rfl | rfl
 ·exact⟨V,0,ba,bc,rfl,h.lt,h.c0⟩
 ·exact⟨V,0,sa,sc,rfl,h.lt,h.c1⟩
theorem small21_0 {L K:Nat} (h:small21 L K []=true):L≤40∧K≤12:=by
 simpa[small21] using h
theorem small21_1 {L K x:Nat} (h:small21 L K [x]=true):x≤12∧L≤40∧K≤12:=by
 simpa[small21] using h
theorem small21_2 {L K x y:Nat} (h:small21 L K [x,y]=true):x≤12∧y≤12∧L≤40∧K≤12:=by
 simpa[small21,and_assoc] using h
theorem sameD_self (r c:Nat) (qs:List Rat):sameD r c qs r c qs=true:=by simp[sameD]
theorem souter_ok (w:World) (n:Nat) (v:Value) (ii:List Nat) (hx:GrpAt w v ii) (hg:Grp n ii) (hn:n≤2048) :
  Calls Tryz.prog 13 #[.int .i64 (n:Nat),v] w fun e w'=>(∃ d,e=.returned (.tuple #[d,.int .i64 0])∧GrpAt w' d (outer n ii))∧Below w.heap.size w w':=by
 obtain⟨a,c,rfl⟩:=hx.shape
 have h:=souter_any w n a c (zl ii) hx.ints
 rw[zl_length] at h
 refine h.mono ?_
 rintro e w' ⟨hP,hb⟩
 refine⟨?_,hb⟩
 have E0:outE n (zl ii)=0:=by
  unfold outE
  rw[if_neg (by omega),if_neg (by omega),Int.toNat_natCast]
  exact grpE_one hn hg
 rcases hP with ⟨h0,_⟩|⟨_,d,l,rfl,h1,h2,h3,h4⟩
 ·exact absurd E0 h0
 ·obtain rfl:=zl_inj h1
  exact⟨d,rfl,h4⟩
def MsV (r c:Nat) (F:Mx) (x:Value) (w:World):Prop:=MatS w x r c F
theorem stable_msv (r c:Nat) (F:Mx):Stable (MsV r c F):=fun _ _ _ h hs=>MatS.call h hs
theorem MsV.m {r c:Nat} {F:Mx} {x:Value} {w:World} (h:MsV r c F x w):MatS w x r c F:=h
def MaV (r c:Nat) (F:Mx) (x:Value) (w:World):Prop:=MatAt w x r c (dense r c F)
theorem stable_mav (r c:Nat) (F:Mx):Stable (MaV r c F):=fun _ _ _ h hs=>MatAt.call h hs
theorem MaV.m {r c:Nat} {F:Mx} {x:Value} {w:World} (h:MaV r c F x w):MatAt w x r c (dense r c F):=h
theorem gs_pair {w:World} {b ca cb:Nat} {a a':Option Addr} {l m:List Nat} {T:TypeId} (hB:Bx w b T [.slice a l.length ca,.slice a' m.length cb]) (hx:IntsAt w a (zl l)) (hy:IntsAt w a' (zl m)):GsAt w (.slice (some ⟨b,0,none⟩) 2 2) ([l,m].map zl):=by
 refine⟨_,_,rfl,fun i hi=>?_⟩
 have h2:i=0∨i=1:=by simp at hi;omega
 rcases h2 with rfl | rfl
 ·exact⟨b,0,a,ca,rfl,hB.lt,by rw[show((([l,m].map zl).getD 0 []).length)=l.length from zl_length l];exact hB.c0,hx⟩
 ·exact⟨b,0,a',cb,rfl,hB.lt,by rw[show((([l,m].map zl).getD 1 []).length)=m.length from zl_length m];exact hB.c1,hy⟩
theorem bx_grown_own {w w':World} {S base s n:Nat} {T e:TypeId} {v:Value} {cs xs:List Value} (h:Bx w S T cs) (ho:w.ownsRow base e s v n xs) (hT:T≠e) (hgr:w.grownBy w' v.ownBlock):Bx w' S T cs:=by
 have hS:w.heap[S]?=some (Obj.cells cs.toArray T (0,0)):=h
 show w'.heap[S]?=_
 rw[hgr.block S h.lt (fun e9=>?_)]
 ·exact hS
 ·rcases ho.2 with ⟨rfl,_⟩|⟨g,cap,cur,rfl,_,hg,_⟩
  ·simp[Value.ownBlock] at e9
  ·simp only[Value.ownBlock,Option.some.injEq] at e9
   subst e9
   rw[hS] at hg
   simp only[Option.some.injEq,Obj.cells.injEq] at hg
   exact hT hg.2.1
end Gus
end
