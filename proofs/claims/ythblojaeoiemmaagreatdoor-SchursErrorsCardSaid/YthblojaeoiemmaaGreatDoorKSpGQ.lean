/- Proved here: parts of the proof: KSpG KEach KAcc KTurn. Conditions: those that each theorem states. -/
import Derived.Test.YthblojaeoiemmaaGreatDoorShelfSQ
section
namespace Gus
open Go Go.RowKit Go.Proofs
abbrev EntI:=Int×Rat
def ecsI (e:EntI):List Value:=.int .i64 e.1 :: fcs e.2
def cI (e:Ent):EntI:=((e.1:Int),e.2)
theorem ecsI_cI (e:Ent):ecsI (cI e)=ecs e:=rfl
def RowG (w:World) (v:Value) (es:List EntI):Prop:=
 ∃ a cap,v=.slice a es.length cap∧∀ i,i<es.length→∃ b off,a=some ⟨b,off,none⟩∧b<w.heap.size∧∀ j,j<6→w.cell? ⟨b,off+i*6+j,none⟩=(ecsI (es.getD i (0,0)))[j]?
theorem RowAt.g {w:World} {v:Value} {es:List Ent} (h:RowAt w v es):RowG w v (es.map cI):=by
 obtain⟨a,cap,h1,h2⟩:=h
 refine⟨a,cap,by rw[List.length_map];exact h1,fun i hi=>?_⟩
 rw[List.length_map] at hi
 obtain⟨b,off,h3,h4,h5⟩:=h2 i hi
 refine⟨b,off,h3,h4,fun j hj=>?_⟩
 rw[Nat.mul_comm i 6,h5 j hj,←ecsI_cI]
 congr 2
 simp only[List.getD_eq_getElem?_getD,List.getElem?_map,List.getElem?_eq_getElem hi];rfl
theorem RowG.below {N:Nat} {w w':World} {v:Value} {es:List EntI} (h:RowG w v es) (hN:w.heap.size≤N) (hb:Below N w w'):RowG w' v es:=by
 obtain⟨a,cap,h1,h2⟩:=h
 refine⟨a,cap,h1,fun i hi=>?_⟩
 obtain⟨b,off,h3,h4,h5⟩:=h2 i hi
 refine⟨b,off,h3,Nat.lt_of_lt_of_le h4 hb.size,fun j hj=>?_⟩
 rw[hb.cell (p:=⟨b,off+i*6+j,none⟩) (Nat.lt_of_lt_of_le h4 hN)]
 exact h5 j hj
theorem RowG.call {w w':World} {v:Value} {es:List EntI} (h:RowG w v es) (hb:Below w.heap.size w w'):RowG w' v es:=h.below (Nat.le_refl _) hb
theorem RowG.at {w:World} {v:Value} {es:List EntI} (h:RowG w v es) {i:Nat} (hi:i<es.length) :
  ∃ b off cap A1 A2 A3 A4 A5,v=.slice (some ⟨b,off,none⟩) es.length cap∧b<w.heap.size∧fcs (es.getD i (0,0)).2=[.int .u64 A1,.string A2,.bool A3,.int .u64 A4,.string A5]∧fracV (es.getD i (0,0)).2=.agg #[.int .u64 A1,.string A2,.bool A3,.int .u64 A4,.string A5] ∧
   w.cell? ⟨b,off+i*6,none⟩=some (.int .i64 (es.getD i (0,0)).1)∧w.cell? ⟨b,off+i*6+1,none⟩=some (.int .u64 A1)∧w.cell? ⟨b,off+i*6+2,none⟩=some (.string A2)∧w.cell? ⟨b,off+i*6+3,none⟩=some (.bool A3) ∧
   w.cell? ⟨b,off+i*6+4,none⟩=some (.int .u64 A4)∧w.cell? ⟨b,off+i*6+5,none⟩=some (.string A5):=by
 obtain⟨a,cap,h1,h2⟩:=h
 obtain⟨b,off,h3,h4,h5⟩:=h2 i hi
 subst h3
 exact⟨b,off,cap,_,_,_,_,_,h1,h4,rfl,rfl,h5 0 (by decide),h5 1 (by decide),h5 2 (by decide),h5 3 (by decide),h5 4 (by decide),h5 5 (by decide)⟩
def SpG (w:World) (v:Value) (n m:Int) (rows:List (List EntI)):Prop:=
 ∃ a cap,v=.agg #[.int .i64 n,.int .i64 m,.slice a rows.length cap]∧∀ i,i<rows.length→∃ b off x,a=some ⟨b,off,none⟩∧b<w.heap.size∧w.cell? ⟨b,off+i,none⟩=some x∧RowG w x (rows.getD i [])
theorem SpAt.g {w:World} {v:Value} {r c:Nat} {rows:List (List Ent)} (h:SpAt w v r c rows):SpG w v r c (rows.map fun es=>es.map cI):=by
 obtain⟨a,cap,h1,h2⟩:=h
 refine⟨a,cap,by rw[List.length_map];exact h1,fun i hi=>?_⟩
 rw[List.length_map] at hi
 obtain⟨b,off,x,h3,h4,h5,h6⟩:=h2 i hi
 refine⟨b,off,x,h3,h4,h5, ?_⟩
 have e:(rows.map fun es=>es.map cI).getD i []=(rows.getD i []).map cI:=by
  simp only[List.getD_eq_getElem?_getD,List.getElem?_map,List.getElem?_eq_getElem hi];rfl
 rw[e];exact h6.g
theorem SpG.call {w w':World} {v:Value} {n m:Int} {rows:List (List EntI)} (h:SpG w v n m rows) (hb:Below w.heap.size w w'):SpG w' v n m rows:=by
 obtain⟨a,cap,h1,h2⟩:=h
 refine⟨a,cap,h1,fun i hi=>?_⟩
 obtain⟨b,off,x,h3,h4,h5,h6⟩:=h2 i hi
 refine⟨b,off,x,h3,Nat.lt_of_lt_of_le h4 hb.size, ?_,h6.call hb⟩
 rw[hb.cell (p:=⟨b,off+i,none⟩) h4]
 exact h5
def rowOk (m:Int):Int→List EntI→Bool
 | _,[]=>true
 | last,e :: es=>decide (last<e.1) && decide (e.1<m) && decide (e.2≠0) && rowOk m e.1 es
def checkS (n m:Int) (rows:List (List EntI)):Int:=
 if sidesE n m≠0 then sidesE n m else if (rows.length:Int)≠n then 1 else if rows.all (rowOk m (-1))=true then 0 else 1
theorem drop_getD {α:Type} (l:List α) (d:α) {i:Nat} (hi:i<l.length):l.drop i=l.getD i d :: l.drop (i+1):=by
 rw[List.drop_eq_getElem_cons hi,List.getD_eq_getElem?_getD,List.getElem?_eq_getElem hi];rfl
set_option maxRecDepth 100000 in
set_option maxHeartbeats 4000000 in
theorem scheck_any (w:World) (v:Value) (n m:Int) (rows:List (List EntI)) (h:SpG w v n m rows) (hr:rows.length≤4096) (hl:∀ i,(rows.getD i []).length≤4096) :
  Calls Tryz.prog 9 #[v] w fun e w'=>e=.returned (.int .i64 (checkS n m rows))∧Below w.heap.size w w':=by
 have h1:=sides_any n m
 obtain⟨a,cap,rfl,hrow⟩:=h
 unfold checkS
 by_cases hs:sidesE n m=0
 ·rw[if_neg (by simpa using hs)]
  rw[hs] at h1
  obtain⟨L,hL⟩:∃ L,L=rows.length:=⟨_,rfl⟩
  rw[←hL] at hrow hr ⊢
  by_cases hn:(L:Int)=n
  ·rw[if_neg (by simpa using hn)]
   obtain⟨ok,hok⟩:∃ ok,ok=rows.all (rowOk m (-1)):=⟨_,rfl⟩
   rw[←hok]
   subst hn
   have HR:=Lib.hid hrow
   have HL:=Lib.hid hL
   have HLL:=Lib.hid hl
   have HOK:=Lib.hid hok
   clear hrow hL hl hok hs
   go_enter Tryz.func9,Tryz.ntmps9
   go_wp2_with fail
   (((with_reducible refine(h1 _).mono ?_));rintro e w' ⟨rfl,hb⟩;have h:=tsz ((In.self _).call hb);clear hb;have hc:=h.cell;have hf:=h.frozen)
   have hz0:w.heap.size<w'.heap.size:=(by have:=h.siz;omega)
   go_wp2_with fail
   obtain⟨X,hX⟩:∃ X,X=w.heap.size:=⟨_,rfl⟩
   have bx:=(Bx.new_at w #[.int .i64 (L:Int),.int .i64 m,.slice a L cap] 27 hX).below h.bel (by omega)
   have hin:In X w w':=by rw[hX];exact h.out ((In.self w).alloc _) (Nat.le_succ _)
   rw[←hX]
   have HX:=Lib.hid hX
   clear h hc hf hz0 hX
   go_loopw [26] (fun v26 wr=>∃ i:Nat,i≤L∧v26=.int .i64 i∧In X w wr∧Bx wr X 27 [.int .i64 (L:Int),.int .i64 m,.slice a L cap]∧Hid (ok=(rows.drop i).all (rowOk m (-1)))) (fun v26 _=>L - (RowKit.intOf v26).toNat)
   case atStart=>exact⟨0,Nat.zero_le _,rfl,hin,bx,HOK⟩
   case round=>
    clear bx hin HOK
    obtain⟨i,hi,rfl,hin,bx,HOK⟩:=hrel
    by_cases hiL:i<L
    ·obtain⟨b,off,x,ha,hb,hcx,hxr⟩:=HR.out i hiL
     obtain⟨es,hes⟩:∃ es,es=rows.getD i []:=⟨_,rfl⟩
     have hdr:=drop_getD rows [] (by rw[←HL.out];exact hiL)
     rw[←hes] at hxr hdr
     have hok:=HOK.out
     rw[hdr,List.all_cons] at hok
     obtain⟨tl,htl⟩:∃ tl,tl=(rows.drop (i+1)).all (rowOk m (-1)):=⟨_,rfl⟩
     rw[←htl] at hok
     have hlen:=HLL.out i
     rw[←hes] at hlen
     obtain⟨xa,xc,rfl,hre⟩:=id hxr
     obtain⟨K,hK⟩:∃ K,K=es.length:=⟨_,rfl⟩
     have hcx2:wr.cell? ⟨b,off+i,none⟩=some (.slice xa K xc):=by rw[hin.cell b _ (by rw[HX.out];exact hb),hK];exact hcx
     rw[←hK] at hlen
     have hbw:b<wr.heap.size:=by have:=hin.siz;have:=HX.out;omega
     have hiI:(i:Int)<L:=by omega
     have hi0:(0:Int)≤i:=by omega
     have HXR:=Lib.hid hxr
     have HE:=Lib.hid hes
     have HT:=Lib.hid htl
     have HOK:=Lib.hid hok
     have HK:=Lib.hid hK
     subst ha
     clear hcx hxr hre hes hdr hok htl hK
     go_wp2_with fail
     have HIN:=Lib.hid hin
     go_loopw [6,32] (fun v6 v32 wq=>∃ (j:Nat) (last:Int),j≤K∧v32=.int .i64 j∧v6=.int .i64 last∧In X w wq∧Bx wq X 27 [.int .i64 (L:Int),.int .i64 m,.slice (some ⟨b,off,none⟩) L cap]∧Hid (ok=(rowOk m last (es.drop j) && tl))) (fun _ v32 _=>K - (RowKit.intOf v32).toNat)
     case atStart=>exact⟨0,-1,Nat.zero_le _,rfl,rfl,hin,bx,HOK⟩
     case round=>
      clear bx hin HOK hcx2
      obtain⟨j,last,hj,rfl,rfl,hin,bx,HOK⟩:=hrel
      by_cases hjK:j<K
      ·obtain⟨b2,off2,cap2,A1,A2,A3,A4,A5,hv,hb2,hf1,hf2,e0,e1,e2,e3,e4,e5⟩:=HXR.out.at (by rw[←HK.out];exact hjK)
       have hdr:=drop_getD es (0,0) (show j<es.length by rw[←HK.out];exact hjK)
       obtain⟨e,he⟩:∃ e,e=es.getD j (0,0):=⟨_,rfl⟩
       rw[←he] at hdr e0 hf1 hf2
       have hok:=HOK.out
       rw[hdr,rowOk] at hok
       obtain⟨col,q,rfl⟩:∃ col q,e=(col,q):=⟨e.1,e.2,rfl⟩
       simp only at e0 hf1 hf2 hok
       have h4:=fsign_any q
       rw[hf2] at h4
       have hb2X:b2<X:=by rw[HX.out];exact hb2
       rw[←hin.cell b2 _ hb2X] at e0 e1 e2 e3 e4 e5
       have hbw2:b2<wr.heap.size:=by have:=hin.siz;omega
       simp only[Value.slice.injEq] at hv
       obtain⟨rfl,_,hcc⟩:=hv
       subst hcc
       have hjI:(j:Int)<K:=by omega
       have hj0:(0:Int)≤j:=by omega
       obtain⟨rest,hrest⟩:∃ rest,rest=rowOk m col (es.drop (j+1)):=⟨_,rfl⟩
       rw[←hrest] at hok
       have HREST:=Lib.hid hrest
       have HF:=Lib.hid hf1
       have x1:=bx.c1
       have hbx:=bx.lt
       clear hdr he hf1 hf2 hrest hb2 HOK
       by_cases hc1:col≤last
       ·have hokf:ok=false:=by rw[hok];simp;omega
        subst hokf
        clear hok
        go_wp2_with fail
        go_ret
        exact⟨rfl,by rw[←HX.out];exact(hin.alloc _).bel⟩
       ·have hc1':last<col:=by omega
        by_cases hc2:m≤col
        ·have hokf:ok=false:=by rw[hok];simp;omega
         subst hokf
         clear hok
         go_wp2_with fail
         go_ret
         exact⟨rfl,by rw[←HX.out];exact(hin.alloc _).bel⟩
        ·by_cases hq:q=0
         ·have hokf:ok=false:=by rw[hok];simp[hq]
          subst hokf
          rw[hq,show isign (0:Rat).num=0 from rfl] at h4
          clear hok hq
          go_wp2_with fail
          ((with_reducible refine(h4 _).mono ?_))
          rintro e w2 ⟨rfl,hb3⟩
          have hin2:=(hin.alloc _).call hb3
          clear hb3
          go_wp2_with fail
          go_ret
          exact⟨rfl,by rw[←HX.out];exact hin2.bel⟩
         ·have hok2:ok=(rest && tl):=by rw[hok];simp[hc1',hq,Int.not_le.1 hc2]
          rw[HREST.out] at hok2
          have hz:(isign q.num == 0)=false:=by
           have:q.num≠0:=fun h=>hq (Rat.num_eq_zero.1 h)
           have h0:¬ isign q.num=0:=by unfold isign;split <;> (try split) <;> simp_all
           simpa using h0
          obtain⟨z,hz1⟩:∃ z,z=isign q.num:=⟨_,rfl⟩
          rw[←hz1] at hz h4
          have HOK:=Lib.hid hok2
          have HQ:=Lib.hid hq
          clear hok hok2 hz1 hq
          have hjw:IntKind.i64.wrap ((j:Int)+1)=((j+1:Nat):Int):=IntWalk.i64_in _ (by omega)
          go_wp2_with fail
          ((with_reducible refine(h4 _).mono ?_))
          rintro e w2 ⟨rfl,hb3⟩
          have hin2:=(hin.alloc _).call hb3
          have bx2:=(bx.alloc _).call hb3
          have bn:=(Bx.new wr #[.int .i64 col,.int .u64 A1,.string A2,.bool A3,.int .u64 A4,.string A5] 98).call hb3
          have n0:=bn.c0
          have hbn:=bn.lt
          clear hb3 bx hin e0 e1 e2 e3 e4 e5 x1 h4 hbx hbw2
          go_wp2_with fail
          exact⟨⟨j+1,col,by omega,by go_num,rfl,hin2,bx2,HOK⟩,by simp[RowKit.intOf];omega⟩
      ·have hjK':j=K:=by omega
       have hok:=HOK.out
       rw[List.drop_eq_nil_of_le (by rw[←HK.out];omega),rowOk,Bool.true_and,HT.out] at hok
       have HOK2:=Lib.hid hok
       have hiw:IntKind.i64.wrap ((i:Int)+1)=((i+1:Nat):Int):=IntWalk.i64_in _ (by omega)
       have hjI:¬ (j:Int)<K:=by omega
       clear hok HOK
       go_wp2_with fail
       exact⟨⟨i+1,by omega,by go_num,hin,bx,HOK2⟩,by simp[RowKit.intOf];omega⟩
    ·have hok:=HOK.out
     rw[List.drop_eq_nil_of_le (by rw[←HL.out];omega),List.all_nil] at hok
     subst hok
     have hiI:¬ (i:Int)<L:=by omega
     go_wp2_with fail
     go_ret
     exact⟨rfl,by rw[←HX.out];exact hin.bel⟩
  ·rw[if_pos (by simpa using hn)]
   have hb:((L:Int) != n)=true:=by simpa using hn
   clear hs hn hrow hL hl
   go_enter Tryz.func9,Tryz.ntmps9
   go_wp2_with fail
   (((with_reducible refine(h1 _).mono ?_));rintro e w' ⟨rfl,hb⟩;have h:=tsz ((In.self _).call hb);clear hb;have hc:=h.cell;have hf:=h.frozen)
   have hz0:w.heap.size<w'.heap.size:=(by have:=h.siz;omega)
   go_wp2_with fail
   go_ret
   exact⟨rfl,by exact tfin⟩
 ·rw[if_pos hs]
  obtain⟨s,hs1⟩:∃ s,s=sidesE n m:=⟨_,rfl⟩
  rw[←hs1] at h1 hs ⊢
  have hb:(s != 0)=true:=by simpa using hs
  clear hs hs1 hrow hl hr
  go_enter Tryz.func9,Tryz.ntmps9
  go_wp2_with fail
  (((with_reducible refine(h1 _).mono ?_));rintro e w' ⟨rfl,hb⟩;have h:=tsz ((In.self _).call hb);clear hb;have hc:=h.cell;have hf:=h.frozen)
  go_wp2_with fail
  go_ret
  exact⟨rfl,by exact tfin⟩
end Gus
end
section
namespace Gus
open Go Go.RowKit Go.Proofs
def itemsF:Nat→List (List Ent)→List (Nat×Nat×Rat)
 | _,[]=>[]
 | i,es :: rows=>es.map (fun e=>(i,e.1,e.2)) ++ itemsF (i+1) rows
theorem itemsF_drop {rows:List (List Ent)} {k:Nat} (hk:k<rows.length):itemsF k (rows.drop k)=(rows.getD k []).map (fun e=>(k,e.1,e.2)) ++ itemsF (k+1) (rows.drop (k+1)):=by
 rw[drop_getD rows [] hk];rfl
set_option maxRecDepth 100000 in
set_option maxHeartbeats 4000000 in
theorem each_any (Inv:List (Nat×Nat×Rat)→World→Prop) (w0 w:World) (v:Value) (r c:Nat) (rows:List (List Ent)) (g:Nat) (cb:Array Value) (eg:∀ args w,(callFunc g args).run Tryz.prog w=.ok (.enter g args) w)
  (hsp:SpAt w0 v r c rows) (hin:∀ t W,Inv t W→In w0.heap.size w0 W) (hst:∀ t W W',Inv t W→Below W.heap.size W W'→Inv t W')
  (hcl:∀ i k q t W,Inv ((i,k,q) :: t) W→Calls Tryz.prog g (#[.int .i64 (i:Nat),.int .i64 (k:Nat),fracV q] ++ cb) W fun e w'=>e=.returned (.tuple #[])∧Inv t w') (hr:rows.length≤4096) (hl:∀ i,(rows.getD i []).length≤4096) (h0:Inv (itemsF 0 rows) w) :
  Calls Tryz.prog 72 #[v,.func (.func g) #[] cb] w fun e w'=>e=.returned (.tuple #[])∧Inv [] w':=by
 obtain⟨a,cap,rfl,hrow⟩:=hsp
 obtain⟨L,hL⟩:∃ L,L=rows.length:=⟨_,rfl⟩
 rw[←hL] at hr hrow ⊢
 have HL:=Lib.hid hL
 have HLL:=Lib.hid hl
 have HS:=Lib.hid hst
 have HP:=Lib.hid hrow
 have HC:=Lib.hid hcl
 have HI:=Lib.hid hin
 have H0:=Lib.hid (hst _ _ _ h0 ((Below.refl _ _).alloc (Nat.le_refl _) (.cells #[.int .i64 (r:Int),.int .i64 (c:Int),.slice a L cap] 27)))
 clear hL hl hst hrow hcl h0 hin
 go_enter Tryz.func72,Tryz.ntmps72
 go_wp2_with fail
 go_loopw [11] (fun v11 wr=>∃ i:Nat,i≤L∧v11=.int .i64 i∧Hid (Inv (itemsF i (rows.drop i)) wr)) (fun v11 _=>L - (RowKit.intOf v11).toNat)
 case atStart=>exact⟨0,Nat.zero_le _,rfl,H0⟩
 case round=>
  clear H0
  obtain⟨i,hi,rfl,HV⟩:=hrel
  by_cases hiL:i<L
  ·obtain⟨b,off,x,rfl,hb,hcx,hxr⟩:=HP.out i hiL
   obtain⟨es,hes⟩:∃ es,es=rows.getD i []:=⟨_,rfl⟩
   have hdr:=itemsF_drop (rows:=rows) (k:=i) (by rw[←HL.out];exact hiL)
   rw[←hes] at hxr hdr
   have hv:=HV.out
   rw[hdr] at hv
   have hin0:=HI.out _ _ hv
   obtain⟨tl,htl⟩:∃ tl,tl=itemsF (i+1) (rows.drop (i+1)):=⟨_,rfl⟩
   rw[←htl] at hv
   have hlen:=HLL.out i
   rw[←hes] at hlen
   have hxg:=hxr.g
   obtain⟨xa,xc,rfl,_⟩:=hxr
   obtain⟨K,hK⟩:∃ K,K=es.length:=⟨_,rfl⟩
   have hcx2:wr.cell? ⟨b,off+i,none⟩=some (.slice xa K xc):=by rw[hin0.cell b _ hb,hK];exact hcx
   rw[←hK] at hlen
   have hbw:b<wr.heap.size:=by have:=hin0.siz;omega
   have hiI:(i:Int)<L:=by omega
   have hi0:(0:Int)≤i:=by omega
   have HXR:=Lib.hid hxg
   have HT:=Lib.hid htl
   have HK:=Lib.hid hK
   have HVV:Hid (Inv ((es.drop 0).map (fun e=>(i,e.1,e.2)) ++ tl) wr):=Lib.hid hv
   clear hcx hxg hes hdr hv htl hK HV hin0
   go_wp2_with fail
   go_loopw [18] (fun v18 wq=>∃ j:Nat,j≤K∧v18=.int .i64 j∧Hid (Inv ((es.drop j).map (fun e=>(i,e.1,e.2)) ++ tl) wq)) (fun v18 _=>K - (RowKit.intOf v18).toNat)
   case atStart=>exact⟨0,Nat.zero_le _,rfl,HVV⟩
   case round=>
    clear HVV hcx2 hbw
    obtain⟨j,hj,rfl,HV⟩:=hrel
    by_cases hjK:j<K
    ·obtain⟨b2,off2,cap2,A1,A2,A3,A4,A5,hv,hb2,hf1,hf2,e0,e1,e2,e3,e4,e5⟩:=HXR.out.at (i:=j) (by rw[List.length_map,←HK.out];exact hjK)
     have hdr:=drop_getD es (0,0) (show j<es.length by rw[←HK.out];exact hjK)
     have hgd:(es.map cI).getD j (0,0)=cI (es.getD j (0,0)):=by
      simp only[List.getD_eq_getElem?_getD,List.getElem?_map,List.getElem?_eq_getElem (show j<es.length by rw[←HK.out];exact hjK)];rfl
     rw[hgd] at e0 hf1 hf2
     obtain⟨e,he⟩:∃ e,e=es.getD j (0,0):=⟨_,rfl⟩
     rw[←he] at hdr e0 hf1 hf2
     have hI:=HV.out
     rw[hdr,List.map_cons,List.cons_append] at hI
     obtain⟨col,q,rfl⟩:∃ col q,e=(col,q):=⟨e.1,e.2,rfl⟩
     simp only[cI] at e0 hf1 hf2 hI
     have hin0:=HI.out _ _ hI
     rw[←hin0.cell b2 _ hb2] at e0 e1 e2 e3 e4 e5
     have hbw2:b2<wr.heap.size:=by have:=hin0.siz;omega
     simp only[Value.slice.injEq,List.length_map] at hv
     obtain⟨rfl,_,hcc⟩:=hv
     subst hcc
     have hjI:(j:Int)<K:=by omega
     have hj0:(0:Int)≤j:=by omega
     have hjw:IntKind.i64.wrap ((j:Int)+1)=((j+1:Nat):Int):=IntWalk.i64_in _ (by omega)
     have h4:=HC.out i col q _ (wr.alloc (.cells #[.int .i64 col,.int .u64 A1,.string A2,.bool A3,.int .u64 A4,.string A5] 98)) (HS.out _ _ _ hI ((Below.refl _ _).alloc (Nat.le_refl _) _))
     rw[hf2] at h4
     have HF:=Lib.hid hf1
     clear hdr he hf1 hf2 HV hI hgd hin0
     go_wp2_with fail
     (refine h4.mono ?_)
     rintro e w2 ⟨rfl,hI2⟩
     have HI2:=Lib.hid hI2
     clear hI2 h4 e0 e1 e2 e3 e4 e5 hbw2
     go_wp2_with fail
     exact⟨⟨j+1,by omega,by go_num,HI2⟩,by simp[RowKit.intOf];omega⟩
    ·have hjK':j=K:=by omega
     have hI:=HV.out
     rw[List.drop_eq_nil_of_le (by rw[←HK.out];omega),List.map_nil,List.nil_append,HT.out] at hI
     have HI2:=Lib.hid hI
     have hiw:IntKind.i64.wrap ((i:Int)+1)=((i+1:Nat):Int):=IntWalk.i64_in _ (by omega)
     have hjI:¬ (j:Int)<K:=by omega
     clear hI HV
     go_wp2_with fail
     exact⟨⟨i+1,by omega,by go_num,HI2⟩,by simp[RowKit.intOf];omega⟩
  ·have hI:=HV.out
   rw[List.drop_eq_nil_of_le (by rw[←HL.out];omega)] at hI
   have HI2:Hid (Inv [] wr):=Lib.hid hI
   have hiI:¬ (i:Int)<L:=by omega
   clear hI
   go_wp2_with fail
   go_end0
   exact⟨rfl,HI2.out⟩
end Gus
end
section
namespace Gus
open Go Go.RowKit Go.Proofs
def mrows (r c:Nat) (f:Nat→Nat→Rat):List (List Ent):=rowsL r fun i=>rowOf (f i) c
def SpM (w:World) (v:Value) (r c:Nat) (f:Nat→Nat→Rat):Prop:=SpAt w v r c (mrows r c f)
def SpN (w:World) (lo:Nat) (v:Value) (r c:Nat) (f:Nat→Nat→Rat):Prop:=SpOwn w lo v r c fun i=>rowOf (f i) c
theorem SpN.m {w:World} {lo:Nat} {v:Value} {r c:Nat} {f:Nat→Nat→Rat} (h:SpN w lo v r c f):SpM w v r c f:=SpOwn.at h
theorem SpN.call {w w':World} {lo:Nat} {v:Value} {r c:Nat} {f:Nat→Nat→Rat} (h:SpN w lo v r c f) (hb:Below w.heap.size w w'):SpN w' lo v r c f:=SpOwn.call h hb
theorem SpM.call {w w':World} {v:Value} {r c:Nat} {f:Nat→Nat→Rat} (h:SpM w v r c f) (hb:Below w.heap.size w w'):SpM w' v r c f:=SpAt.call h hb
theorem mrows_length (r c:Nat) (f:Nat→Nat→Rat):(mrows r c f).length=r:=rowsL_length _ _
theorem mrows_getD {r:Nat} (c:Nat) (f:Nat→Nat→Rat) {i:Nat} (hi:i<r):(mrows r c f).getD i []=rowOf (f i) c:=rowsL_getD _ hi
theorem mrows_row (r c:Nat) (f:Nat→Nat→Rat) (i:Nat):((mrows r c f).getD i []).length≤c:=by
 by_cases hi:i<r
 ·rw[mrows_getD c f hi];exact rowOf_length _ _
 ·rw[List.getD_eq_getElem?_getD,List.getElem?_eq_none (by rw[mrows_length];omega)];exact Nat.zero_le _
theorem rowOf_congr {g h:Nat→Rat} {M:Nat} (e:∀ k,k<M→g k=h k):rowOf g M=rowOf h M:=by
 unfold rowOf
 have e1:(List.range M).filter (fun k=>g k != 0)=(List.range M).filter (fun k=>h k != 0):=List.filter_congr fun k hk=>by rw[e k (List.mem_range.1 hk)]
 rw[e1]
 exact List.map_congr_left fun k hk=>by rw[e k (List.mem_range.1 (List.mem_filter.1 hk).1)]
def items (r c:Nat) (f:Nat→Nat→Rat):List (Nat×Nat×Rat):=itemsF 0 (mrows r c f)
theorem mem_itemsF:∀ {rows:List (List Ent)} {i0 i k:Nat} {q:Rat},(i,k,q)∈itemsF i0 rows↔i0≤i∧i - i0<rows.length∧(k,q)∈rows.getD (i - i0) []
 | [],i0,i,k,q=>by simp[itemsF]
 | es :: rows,i0,i,k,q=>by
  unfold itemsF
  rw[List.mem_append,List.mem_map,mem_itemsF]
  constructor
  ·rintro(⟨⟨a,b⟩,h1,h2⟩|⟨h1,h2,h3⟩)
   ·cases h2
    refine⟨Nat.le_refl _,by simp, ?_⟩
    simpa using h1
   ·refine⟨by omega,by simp;omega, ?_⟩
    rw[show i - i0=(i - (i0+1))+1 by omega]
    simpa using h3
  ·rintro⟨h1,h2,h3⟩
   by_cases h:i=i0
   ·subst h
    exact .inl ⟨(k,q),by simpa using h3,rfl⟩
   ·refine .inr ⟨by omega,by simp at h2;omega, ?_⟩
    rw[show i - i0=(i - (i0+1))+1 by omega] at h3
    simpa using h3
theorem mem_items {r c i k:Nat} {f:Nat→Nat→Rat} {q:Rat}:(i,k,q)∈items r c f↔i<r∧k<c∧f i k≠0∧q=f i k:=by
 unfold items
 rw[mem_itemsF,mrows_length,Nat.sub_zero]
 constructor
 ·rintro⟨_,h2,h3⟩
  rw[mrows_getD c f h2,mem_rowOf] at h3
  exact⟨h2,h3⟩
 ·rintro⟨h1,h2⟩
  refine⟨Nat.zero_le _,h1, ?_⟩
  rw[mrows_getD c f h1,mem_rowOf]
  exact h2
def addF (f:Nat→Nat→Rat) (x:Nat×Nat×Rat):Nat→Nat→Rat:=setF f x.1 x.2.1 (f x.1 x.2.1+x.2.2)
def foldA (f:Nat→Nat→Rat) (L:List (Nat×Nat×Rat)):Nat→Nat→Rat:=L.foldl addF f
def sumAt (L:List (Nat×Nat×Rat)) (a c:Nat):Rat:=match L with
 | []=>0
 | x :: L=>(if x.1=a∧x.2.1=c then x.2.2 else 0)+sumAt L a c
theorem foldA_at:∀ (L:List (Nat×Nat×Rat)) (f:Nat→Nat→Rat) (a c:Nat),foldA f L a c=f a c+sumAt L a c
 | [],f,a,c=>by simp[foldA,sumAt,Rat.add_zero]
 | x :: L,f,a,c=>by
  show foldA (addF f x) L a c=_
  rw[foldA_at L,sumAt]
  unfold addF setF
  by_cases h:a=x.1∧c=x.2.1
  ·obtain⟨rfl,rfl⟩:=h
   rw[if_pos ⟨rfl,rfl⟩,if_pos ⟨rfl,rfl⟩,Rat.add_assoc]
  ·rw[if_neg h,if_neg (fun e=>h ⟨e.1.symm,e.2.symm⟩),Rat.zero_add]
theorem sumAt_zero {L:List (Nat×Nat×Rat)} {a c:Nat} (h:∀ x∈L,¬ (x.1=a∧x.2.1=c)):sumAt L a c=0:=by
 induction L with
 | nil=>rfl
 | cons x L ih=>rw[sumAt,if_neg (h x (.head _)),ih (fun y hy=>h y (List.mem_cons_of_mem _ hy)),Rat.zero_add]
theorem sumAt_once {L:List (Nat×Nat×Rat)} {a c:Nat} {q:Rat} (hp:L.Pairwise fun x y=>¬ (x.1=y.1∧x.2.1=y.2.1)) (h:(a,c,q)∈L):sumAt L a c=q:=by
 induction L with
 | nil=>cases h
 | cons x L ih=>
  rw[List.pairwise_cons] at hp
  rw[sumAt]
  rcases List.mem_cons.1 h with h1 | h1
  ·subst h1
   rw[if_pos ⟨rfl,rfl⟩,sumAt_zero (fun y hy e=>hp.1 y hy ⟨e.1.symm,e.2.symm⟩),Rat.add_zero]
  ·rw[if_neg (fun e=>hp.1 _ h1 e),ih hp.2 h1,Rat.zero_add]
theorem itemsF_once:∀ (rows:List (List Ent)) (i0:Nat),(∀ es∈rows,Onc es)→(itemsF i0 rows).Pairwise fun x y=>¬ (x.1=y.1∧x.2.1=y.2.1)
 | [],_,_=>.nil
 | es :: rows,i0,h=>by
  unfold itemsF
  rw[List.pairwise_append]
  refine⟨?_,itemsF_once rows (i0+1) (fun e he=>h e (List.mem_cons_of_mem _ he)), ?_⟩
  ·rw[List.pairwise_map]
   exact(h es (.head _)).imp fun h e=>h e.2
  ·rintro x hx ⟨i,k,q⟩ hy ⟨e1,e2⟩
   obtain⟨a,_,rfl⟩:=List.mem_map.1 hx
   have:=(mem_itemsF.1 hy).1
   simp only at e1
   omega
theorem asc_onc {es:List Ent} (h:Asc es):Onc es:=h.imp fun h=>by omega
theorem items_once (r c:Nat) (f:Nat→Nat→Rat):(items r c f).Pairwise fun x y=>¬ (x.1=y.1∧x.2.1=y.2.1):=
 itemsF_once _ _ fun es he=>by
  obtain⟨i,_,rfl⟩:=List.mem_map.1 he
  exact asc_onc (rowOf_asc _ _)
end Gus
end
section
namespace Gus
open Go Go.RowKit Go.Proofs
theorem SzK_foldA {j s:Nat} {f:Nat→Nat→Rat} {x:Nat×Nat×Rat} (hf:∀ a c,SzK s (f a c)) (hx:SzK j x.2.2):∀ a c,SzK (s+j+1) (addF f x a c):=by
 intro a c
 unfold addF setF
 split
 ·exact(hf _ _).add hx
 ·exact(hf a c).mono (by omega)
theorem rowOk_asc (m:Nat):∀ (es:List Ent) (last:Int),Asc es→(∀ x∈es,last<(x.1:Int)∧x.1<m∧x.2≠0)→rowOk m last (es.map cI)=true
 | [],_,_,_=>rfl
 | e :: es,last,ha,h=>by
  have ha':=List.pairwise_cons.1 ha
  have h0:=h e (.head _)
  rw[List.map_cons,rowOk,rowOk_asc m es _ ha'.2 (fun x hx=>⟨by have:=ha'.1 x hx;simp only[cI];omega,(h x (List.mem_cons_of_mem _ hx)).2⟩)]
  have h1:last<(cI e).1:=h0.1
  have h2:(cI e).1<(m:Int):=by show(e.1:Int)<m;omega
  have h3:(cI e).2≠0:=h0.2.2
  rw[decide_eq_true h1,decide_eq_true h2,decide_eq_true h3];rfl
theorem checkS_valid {r c:Nat} (hr:r≤2048) (hc:c≤2048) (f:Nat→Nat→Rat):checkS r c ((mrows r c f).map fun es=>es.map cI)=0:=by
 unfold checkS
 rw[show sidesE r c=0 by unfold sidesE;rw[if_neg (by omega),if_neg (by omega)],List.length_map,mrows_length]
 rw[if_neg (by simp),if_neg (by simp),if_pos]
 rw[List.all_eq_true]
 intro es he
 obtain⟨es',h1,rfl⟩:=List.mem_map.1 he
 obtain⟨i,_,rfl⟩:=List.mem_map.1 h1
 exact rowOk_asc c _ _ (rowOf_asc _ _) fun x hx=>by
  have:=mem_rowOf.1 (show(x.1,x.2)∈rowOf (f i) c from hx)
  exact⟨by omega,this.1,by rw[this.2.2];exact this.2.1⟩
theorem scheck_ok {w:World} {v:Value} {r c:Nat} {f:Nat→Nat→Rat} (h:SpM w v r c f) (hr:r≤2048) (hc:c≤2048) :
  Calls Tryz.prog 9 #[v] w fun e w'=>e=.returned (.int .i64 0)∧Below w.heap.size w w':=by
 have:=scheck_any w v r c _ h.g (by rw[List.length_map,mrows_length];omega) (fun i=>by
  by_cases hi:i<r
  ·have e:((mrows r c f).map fun es=>es.map cI).getD i []=((mrows r c f).getD i []).map cI:=by
    simp only[List.getD_eq_getElem?_getD,List.getElem?_map,List.getElem?_eq_getElem (show i<(mrows r c f).length by rw[mrows_length];exact hi)];rfl
   rw[e,List.length_map]
   exact Nat.le_trans (mrows_row r c f i) (by omega)
  ·rw[List.getD_eq_getElem?_getD,List.getElem?_eq_none (by rw[List.length_map,mrows_length];omega)];exact Nat.zero_le _)
 rw[checkS_valid hr hc] at this
 exact this
theorem SpM.shape {w:World} {v:Value} {r c:Nat} {f:Nat→Nat→Rat} (h:SpM w v r c f):∃ a cap,v=.agg #[.int .i64 r,.int .i64 c,.slice a r cap]:=by
 obtain⟨a,cap,h1,_⟩:=h
 rw[mrows_length] at h1
 exact⟨a,cap,h1⟩
theorem SpN.congr {w:World} {lo:Nat} {v:Value} {r c:Nat} {f g:Nat→Nat→Rat} (h:SpN w lo v r c f) (e:∀ i k,i<r→k<c→f i k=g i k):SpN w lo v r c g:=by
 obtain⟨R,vs,h1,h2,h3,h4⟩:=h
 refine⟨R,vs,h1,h2,h3,h4.len,fun i hi=>?_,h4.apart⟩
 rw[←rowOf_congr fun k hk=>e i k hi hk]
 exact h4.row i hi
theorem SpN.mono {w:World} {lo lo':Nat} {v:Value} {r c:Nat} {f:Nat→Nat→Rat} (h:SpN w lo v r c f) (hl:lo'≤lo):SpN w lo' v r c f:=by
 obtain⟨R,vs,h1,h2,h3⟩:=h
 exact⟨R,vs,h1,by omega,h3⟩
theorem SpOwn.other {w:World} {lo:Nat} {v:Value} {r c:Nat} {Ls:Nat→List Ent} {a:Addr} (h:SpOwn w lo v r c Ls) (ha:a.block<lo) (u:Value):SpOwn (w.setCell a u) lo v r c Ls:=by
 obtain⟨R,vs,rfl,h1,h2,h3⟩:=h
 exact⟨R,vs,rfl,h1,h2.other (by omega) u,h3.other (by omega) u⟩
end Gus
end
