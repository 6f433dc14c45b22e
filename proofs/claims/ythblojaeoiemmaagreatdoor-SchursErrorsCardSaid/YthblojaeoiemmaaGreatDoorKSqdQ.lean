/- Proved here: parts of the proof: KSqd KSqe KSqf. Conditions: those that each theorem states. -/
import Derived.Test.YthblojaeoiemmaaGreatDoorKSceQ
section
namespace Gus
open Go Go.RowKit Go.Proofs
def icl (xs:List Nat):List Value:=xs.map fun(d:Nat)=>.int .i64 (d:Int)
theorem owns_cons {w:World} {base:Nat} {T:TypeId} {s:Nat} {v:Value} {n:Nat} {xs:List Value} (h:w.ownsRow base T s v (n+1) xs):∃ g c,v=.slice (some ⟨g,0,none⟩) (n+1) c:=by
 rcases h.2 with ⟨_,hn⟩|⟨g,c,cur,h9,_⟩
 ·omega
 ·exact⟨g,c,h9⟩
def GrpAt (w:World) (v:Value) (l:List Nat):Prop:=∃ a c,v=.slice a l.length c∧IntsAt w a (zl l)
theorem GrpAt.call {w w':World} {v:Value} {l:List Nat} (h:GrpAt w v l) (hb:Below w.heap.size w w'):GrpAt w' v l:=by
 obtain⟨a,c,h1,h2⟩:=h
 exact⟨a,c,h1,h2.call hb⟩
theorem GrpAt.shape {w:World} {v:Value} {l:List Nat} (h:GrpAt w v l):∃ a c,v=.slice a l.length c:=let ⟨a,c,h1,_⟩:=h;⟨a,c,h1⟩
theorem owns_grp {w:World} {lo:Nat} {v:Value} {l:List Nat} (h:w.ownsRow lo 3 1 v l.length (icl l)):GrpAt w v l:=by
 obtain⟨a,c,h1,h2⟩:=pivs_ints h
 exact⟨a,c,h1,h2⟩
def bl (n:Nat) (l:List Nat):List Bool:=(List.range n).map fun i=>l.contains i
theorem bl_nil (n:Nat):bl n []=List.replicate n false:=by
 apply List.ext_getElem <;> simp[bl]
theorem bl_set (n:Nat) (l:List Nat) (p:Nat):(bl n l).set p true=bl n (l ++ [p]):=by
 apply List.ext_getElem
 ·simp[bl]
 ·intro i h1 h2
  simp only[bl,List.getElem_set,List.getElem_map,List.getElem_range,List.contains_append,List.contains_cons,List.contains_nil,Bool.or_false]
  by_cases h:p=i
  ·rw[if_pos h,h];simp
  ·rw[if_neg h]
   have:(i == p)=false:=by simpa using fun e=>h e.symm
   rw[this,Bool.or_false]
def bcl (s:List Bool):List Value:=s.map Value.bool
theorem bcl_get {n:Nat} (l:List Nat) {p:Nat} (h:p<n):(bcl (bl n l))[p]?=some (.bool (l.contains p)):=by
 unfold bcl bl
 simp[List.getElem?_range h]
theorem bcl_set (n:Nat) (l:List Nat) (p:Nat):(bcl (bl n l)).set p (.bool true)=bcl (bl n (l ++ [p])):=by
 rw[←bl_set];unfold bcl;rw[List.map_set]
theorem info_bool:(Tryz.prog.info? 4).map (fun i=>(i.zero,i.size,i.bytes))=some (some (.bool false),1,1):=by kernel_rfl
theorem made_bool (L:Nat):madeCells #[Value.bool false] L=(bcl (bl L [])).toArray:=by
 apply Array.toList_inj.1
 rw[toList_madeCells_one,bl_nil]
 simp[bcl]
theorem mk_bools (L:Nat) (hL:L≤8796093022208) (w:World):(Instr.makeSlice 164 (.int .i64 (L:Int)) (.int .i64 (L:Int))).run Tryz.prog w =
  .ok (.slice (some ⟨w.heap.size,0,none⟩) L L) (w.alloc (.cells (bcl (bl L [])).toArray 4)):=by
 obtain⟨i0,hi,hz0,hz1,hz2⟩:=info_parts info_bool
 have:=run_make (P:=Tryz.prog) w 164 4 i0 (.bool false) Tryz.underlying164 hi hz0 .i64 .i64 L L (by omega) (Int.le_refl _) (by rw[hz2];omega) (by omega)
 rw[this]
 simp only[Int.toNat_natCast,hz1,Nat.mul_one]
 rw[←made_bool];rfl
theorem outer_snoc (n:Nat) (l:List Nat):outer (n+1) l=outer n l ++ (if l.contains n then [] else [n]):=by
 unfold outer
 rw[List.range_succ,List.filter_append]
 congr 1
 cases h:l.contains n
 ·simpa using h
 ·simpa using h
theorem take_snoc0 (l:List Nat) {p:Nat} (h:p<l.length):l.take p ++ [l.getD p 0]=l.take (p+1):=by
 rw[List.take_add_one,List.getElem?_eq_getElem h,List.getD_eq_getElem?_getD,List.getElem?_eq_getElem h];rfl
theorem outer_le (n:Nat) (l:List Nat):(outer n l).length≤n:=by
 have:=List.length_filter_le (fun i=>!l.contains i) (List.range n)
 simpa[outer] using this
set_option maxRecDepth 100000 in
set_option maxHeartbeats 8000000 in
theorem srest_any (w:World) (n:Nat) (hn:n≤2048) (a:Option Addr) (ca:Nat) (l:List Nat) (hl:IntsAt w a (zl l)) (hln:l.length≤n) (hlt:∀ i∈l,i<n) :
  Calls Tryz.prog 47 #[.int .i64 (n:Nat),.slice a l.length ca] w fun e w'=>(∃ d,e=.returned d∧GrpAt w' d (outer n l))∧Below w.heap.size w w':=by
 obtain⟨i0,hi0,hi1,hi2,hi3⟩:=info_parts info_int8
 have HI:=Lib.hid hl
 have HLT:=Lib.hid hlt
 obtain⟨L,hLL⟩:∃ L,L=l.length:=⟨_,rfl⟩
 rw[←hLL] at hln ⊢
 have HL:=Lib.hid hLL
 have hmk:=mk_bools n (by omega)
 obtain⟨fc,hfc⟩:∃ fc,fc=bcl (bl n []):=⟨_,rfl⟩
 rw[←hfc] at hmk
 have HF:=Lib.hid hfc
 obtain⟨g,hg⟩:∃ g,g=w.heap.size:=⟨_,rfl⟩
 have HG:=Lib.hid hg
 have bv:Bx (w.alloc (.cells fc.toArray 4)) g 4 (bcl (bl n (l.take 0))):=by
  have:=Bx.new_at w fc.toArray 4 hg
  rw[List.take_zero,←HF.out];exact this
 have hin:=(In.self w).alloc (.cells fc.toArray 4)
 clear hl hlt hLL hfc
 go_enter Tryz.func47,Tryz.ntmps47
 go_upto_region 2 with fail
 rw[←hg]
 clear hg hmk
 generalize w.alloc (.cells fc.toArray 4)=W1 at *
 go_wp2_with fail
 go_loopw [14] (fun v14 wr=>∃ k:Nat,k≤L∧v14=.int .i64 k∧In w.heap.size w wr∧Bx wr g 4 (bcl (bl n (l.take k)))) (fun v14 _=>L - (RowKit.intOf v14).toNat)
 case atStart=>exact⟨0,Nat.zero_le _,rfl,hin,bv⟩
 case round=>
  clear hin bv
  obtain⟨k,hk,rfl,hin,bv⟩:=hrel
  by_cases hkL:k<L
  ·have hkI:(k:Int)<L:=by omega
   have hk0:(0:Int)≤k:=by omega
   have hkw:IntKind.i64.wrap ((k:Int)+1)=((k+1:Nat):Int):=IntWalk.i64_in _ (by omega)
   have hkl:k<l.length:=by rw[←HL.out];exact hkL
   obtain⟨pb,po,rfl,hpb,hpc⟩:=HI.out k (by rw[zl_length];exact hkl)
   rw[zl_getD hkl] at hpc
   have hpn:l.getD k 0<n:=HLT.out _ (getD_in hkl)
   have htk:=take_snoc0 l hkl
   obtain⟨p,hp⟩:∃ p,p=l.getD k 0:=⟨_,rfl⟩
   rw[←hp] at hpc hpn htk
   have hpI2:(p:Int)<n:=by omega
   have hp1:(0:Int)≤p:=by omega
   rw[←hin.cell pb _ hpb] at hpc
   have hbw2:pb<wr.heap.size:=by have:=hin.siz;omega
   have c0:=(bv.cell p).trans (bcl_get (l.take k) hpn)
   have f0:=bv.frozen p
   have hgl:=bv.lt
   have hs:=bv.set p (.bool true)
   rw[bcl_set,htk] at hs
   have H1:=Lib.hid hs
   have H2:=Lib.hid (hin.setCell (p:=⟨g,p,none⟩) (Nat.le_of_eq HG.out.symm) (.bool true))
   clear hs hin bv hp hkl hpn htk
   go_wp2_with fail
   exact⟨⟨k+1,by omega,by go_num,H2.out,H1.out⟩,by simp[RowKit.intOf];omega⟩
  ·obtain rfl:k=L:=by omega
   have hkI:¬ (k:Int)<k:=by omega
   rw[List.take_of_length_le (by rw[←HL.out];omega)] at bv
   obtain⟨c,hc⟩:∃ c,c=n - k:=⟨_,rfl⟩
   have hcw:IntKind.i64.wrap ((n:Int) - k)=(c:Int):=by rw[show((n:Int) - k)=(c:Int) by omega];exact IntWalk.i64_in _ (by omega)
   obtain⟨W2,hmk2,hown,hgr⟩:=run_make_own (P:=Tryz.prog) wr w.heap.size 22 3 i0 (.int .i64 0) 1 Tryz.underlying22 hi0 hi1 hi2 .i64 .i64 c (by rw[hi3];omega) (by simp only[maxLen];omega) hin.siz
   have HOWN0:=Lib.hid hown
   have HBV:=Lib.hid (bv.grown hgr (by simp))
   have HIN0:Hid (In w.heap.size w W2):=Lib.hid ⟨hin.bel.grown hgr hin.siz (by simp),Nat.le_trans hin.siz hgr.size⟩
   clear hc bv hin hown hgr
   go_wp2_with fail
   go_loopw [8,28] (fun v8 v28 wr=>∃ i:Nat,i≤n∧v28=.int .i64 i∧In w.heap.size w wr∧Bx wr g 4 (bcl (bl n l))∧wr.ownsRow w.heap.size 3 1 v8 (outer i l).length (icl (outer i l))) (fun _ v28 _=>n - (RowKit.intOf v28).toNat)
   case atStart=>exact⟨0,Nat.zero_le _,rfl,HIN0.out,HBV.out,HOWN0.out⟩
   case round=>
    clear HOWN0 HBV HIN0
    obtain⟨i,hi,rfl,hin,bv,hown⟩:=hrel
    by_cases hiL:i<n
    ·have hiI:(i:Int)<n:=by omega
     have hi0':(0:Int)≤i:=by omega
     have hiw:IntKind.i64.wrap ((i:Int)+1)=((i+1:Nat):Int):=IntWalk.i64_in _ (by omega)
     have hou:=outer_snoc i l
     have hle:=outer_le i l
     have c0:=(bv.cell i).trans (bcl_get l hiL)
     have hgl:=bv.lt
     obtain⟨y,hy⟩:∃ y,y=l.contains i:=⟨_,rfl⟩
     rw[←hy] at c0 hou
     clear hy
     rcases y with _ | _
     ·have HOU:Hid (outer (i+1) l=outer i l ++ [i]):=Lib.hid hou
      have HOWN:=Lib.hid hown
      have HIN:=Lib.hid hin
      have HB:=Lib.hid bv
      have hsz:=hin.siz
      clear hou hown hin bv
      ((go_wp2_with (at_builtin;go_loud (refine wpList_append_own _ rfl (.tmp 36) (.tmp 38) 22 rfl w.heap.size 3 i0 (.int .i64 0) 1 8 Tryz.underlying22 hi0 hi1 hi2 hi3 rfl (by decide) u8 (outer i l).length (icl (outer i l)) rfl (HOWN.out.alloc _) ⟨wr.heap.size,0,none⟩ 1 1 [.int .i64 ((i:Int))] rfl rfl ?p1 ?p2 ?p3 ?p4 ?p5 ?_)));(try (case p1=>(intro j u hj;rw[Addr.add_lit,Nat.zero_add,(Bx.new_at wr #[.int .i64 ((i:Int))] 3 rfl).cell j];exact hj)));(try (case p2=>(first | rfl |(intro u hu;simp only[List.mem_cons,List.not_mem_nil,or_false] at hu;subst hu;rfl))));(try (case p3=>(simp only[maxLen];omega)));(try (case p4=>omega));(try (case p5=>(first | omega |(rw[World.size_alloc];omega))));(intro v' w4 hown4 hgr _);(have hin4:In w.heap.size w w4:=by(have h5:=HIN.out.alloc (.cells #[.int .i64 ((i:Int))] 3);exact⟨h5.bel.grown hgr h5.siz (fun k h=>(World.ownsRow.lt HOWN.out k h).1),Nat.le_trans h5.siz hgr.size⟩));(have KHB:=Lib.hid ((HB.out.alloc (.cells #[.int .i64 ((i:Int))] 3)).grown hgr (by intro e;first | exact ownsRow_ne HOWN.out HB.out (by decide) e | exact ownsRow_ne HOWN.out HB.out (by decide) e.symm)));(have HR4:Hid (w4.ownsRow w.heap.size 3 1 v' ((outer i l).length+1) (icl ((outer i l) ++ [i]))):=Lib.hid (by((have e1:(((i:Nat)):Int)=(i:Int):=(by first | rfl | omega));(have e:icl ((outer i l) ++ [i])=icl (outer i l) ++ [.int .i64 ((i:Int))]:=(by rw[←e1];simp[icl]));rw[e];exact hown4)));(have HIN4:=Lib.hid hin4);(obtain⟨g9,c9,rfl⟩:∃ g9 c9,v'=.slice (some ⟨g9,0,none⟩) ((outer i l).length+1) c9:=by exact owns_cons hown4);clear hown4 hgr hin4 HOWN HIN)
      have HR5:=HR4.out
      rw[←HOU.out] at HR5
      have HLN:Hid ((outer (i+1) l).length=(outer i l).length+1):=Lib.hid (by rw[HOU.out,List.length_append];rfl)
      have HR6:=Lib.hid HR5
      clear HR5 c0 hgl hsz
      go_wp2_with fail
      exact⟨⟨i+1,by omega,by go_num,HIN4.out,KHB.out,by rw[HLN.out];exact HR6.out⟩,by simp[RowKit.intOf];omega⟩
     ·have HOU:Hid (outer (i+1) l=outer i l):=Lib.hid (by rw[hou];exact List.append_nil _)
      have HOWN:=Lib.hid hown
      have HIN:=Lib.hid hin
      have HB:=Lib.hid bv
      clear hou hown hin bv
      go_wp2_with fail
      exact⟨⟨i+1,by omega,by go_num,HIN.out,HB.out,by rw[HOU.out];exact HOWN.out⟩,by simp[RowKit.intOf];omega⟩
    ·obtain rfl:i=n:=by omega
     have hiI:¬ (i:Int)<i:=by omega
     have hg:=owns_grp hown
     have H1:=Lib.hid hg
     have H2:=Lib.hid hin
     clear hg hown hin bv
     go_wp2_with fail
     go_ret
     exact⟨⟨_,rfl,H1.out⟩,H2.out.bel⟩
end Gus
end
section
namespace Gus
open Go Go.RowKit Go.Proofs
def GsAt (w:World) (v:Value) (ls:List (List Int)):Prop:=∃ a c,v=.slice a ls.length c∧∀ i,i<ls.length→∃ b off x xc,a=some ⟨b,off,none⟩∧b<w.heap.size∧w.cell? ⟨b,off+i,none⟩=some (.slice x (ls.getD i []).length xc)∧IntsAt w x (ls.getD i [])
theorem GsAt.call {w w':World} {v:Value} {ls:List (List Int)} (h:GsAt w v ls) (hb:Below w.heap.size w w'):GsAt w' v ls:=by
 obtain⟨a,c,h1,h2⟩:=h
 refine⟨a,c,h1,fun i hi=>?_⟩
 obtain⟨b,off,x,xc,h3,h4,h5,h6⟩:=h2 i hi
 exact⟨b,off,x,xc,h3,Nat.lt_of_lt_of_le h4 hb.size,by rw[hb.cell (p:=⟨b,off+i,none⟩) h4];exact h5,h6.call hb⟩
theorem GsAt.shape {w:World} {v:Value} {ls:List (List Int)} (h:GsAt w v ls):∃ a c,v=.slice a ls.length c:=let ⟨a,c,h1,_⟩:=h;⟨a,c,h1⟩
def longL (l:List Int):Bool:=decide (2048<l.length)
def markOk (n:Nat):List Nat→List Int→Bool
 | _,[]=>true
 | m,x :: xs=>if 0≤x∧x<n∧m.contains x.toNat=false then markOk n (m ++ [x.toNat]) xs else false
def grpE (n:Nat) (ls:List (List Int)):Int:=if ls.any longL then 3 else if markOk n [] ls.flatten then 0 else 1
set_option maxRecDepth 100000 in
set_option maxHeartbeats 8000000 in
theorem sgroup_any (w:World) (n:Nat) (hn:n≤2048) (v:Value) (ls:List (List Int)) (hg:GsAt w v ls) (hl:ls.length≤4096) :
  Calls Tryz.prog 46 #[.int .i64 (n:Nat),v] w fun e w'=>e=.returned (.int .i64 (grpE n ls))∧Below w.heap.size w w':=by
 obtain⟨va,vc,rfl,hcell⟩:=hg
 have HC:=Lib.hid hcell
 obtain⟨L,hL⟩:∃ L,L=ls.length:=⟨_,rfl⟩
 rw[←hL] at hl ⊢
 have HL:=Lib.hid hL
 have hmk:=mk_bools n (by omega)
 obtain⟨fc,hfc⟩:∃ fc,fc=bcl (bl n []):=⟨_,rfl⟩
 rw[←hfc] at hmk
 have HF:=Lib.hid hfc
 obtain⟨E,hE⟩:∃ E,E=grpE n ls:=⟨_,rfl⟩
 rw[←hE]
 have HE:=Lib.hid hE
 clear hcell hL hfc hE
 go_enter Tryz.func46,Tryz.ntmps46
 go_wp2_with fail
 go_loopw [14] (fun v14 wr=>∃ i:Nat,i≤L∧v14=.int .i64 i∧In w.heap.size w wr∧Hid (ls.any longL=(ls.drop i).any longL)) (fun v14 _=>L - (RowKit.intOf v14).toNat)
 case atStart=>exact⟨0,Nat.zero_le _,rfl,In.self _,Lib.hid rfl⟩
 case round=>
  obtain⟨i,hi,rfl,hin,HA⟩:=hrel
  by_cases hiL:i<L
  ·have hiI:(i:Int)<L:=by omega
   have hi0:(0:Int)≤i:=by omega
   have hiw:IntKind.i64.wrap ((i:Int)+1)=((i+1:Nat):Int):=IntWalk.i64_in _ (by omega)
   have hil:i<ls.length:=by rw[←HL.out];exact hiL
   obtain⟨b,off,x,xc,rfl,hb,hc,hx⟩:=HC.out i hil
   have hd:=drop_getD ls [] hil
   obtain⟨l,hl9⟩:∃ l,l=ls.getD i []:=⟨_,rfl⟩
   rw[←hl9] at hc hd
   rw[←hin.cell b _ hb] at hc
   have hbw:b<wr.heap.size:=by have:=hin.siz;omega
   have ha:=HA.out
   rw[hd,List.any_cons] at ha
   obtain⟨K,hK⟩:∃ K,K=l.length:=⟨_,rfl⟩
   rw[←hK] at hc
   by_cases hk:2048<K
   ·have hkI:(2048:Int)<K:=by omega
    have HEE:Hid (E=3):=Lib.hid (by
     rw[HE.out];unfold grpE
     rw[if_pos (by rw[ha];unfold longL;rw[←hK,decide_eq_true hk,Bool.true_or])])
    clear ha hd hl9 hK hil hx HA hk
    go_wp2_with fail
    go_ret
    exact⟨by rw[HEE.out];rfl,hin.bel⟩
   ·have hkI:¬ (2048:Int)<K:=by omega
    have HAA:Hid (ls.any longL=(ls.drop (i+1)).any longL):=Lib.hid (by
     rw[ha];unfold longL;rw[←hK,decide_eq_false hk,Bool.false_or])
    clear ha hd hl9 hK hil hx HA hk
    go_wp2_with fail
    exact⟨⟨i+1,by omega,by go_num,hin,HAA⟩,by simp[RowKit.intOf];omega⟩
  ·obtain rfl:i=L:=by omega
   have hiI:¬ (i:Int)<i:=by omega
   have hno:ls.any longL=false:=by rw[HA.out,List.drop_eq_nil_of_le (by rw[←HL.out];omega)];rfl
   have HE2:Hid (E=if markOk n [] ls.flatten then 0 else 1):=Lib.hid (by rw[HE.out];unfold grpE;rw[hno];rfl)
   have HLEN:Hid (∀ l∈ls,l.length≤2048):=Lib.hid (fun l h=>by
    have:=List.any_eq_false.1 hno l h
    unfold longL at this
    simp only[decide_eq_true_eq] at this
    omega)
   clear hno HA HE
   go_upto_region 8 with fail
   obtain⟨g,hg⟩:∃ g,g=wr.heap.size:=⟨_,rfl⟩
   have HGW:Hid (w.heap.size≤g):=Lib.hid (by rw[hg];exact hin.siz)
   have bv:Bx (wr.alloc (.cells fc.toArray 4)) g 4 (bcl (bl n [])):=by
    have:=Bx.new_at wr fc.toArray 4 hg
    rw[←HF.out];exact this
   replace hin:=hin.alloc (.cells fc.toArray 4)
   rw[←hg]
   clear hg hmk
   generalize wr.alloc (.cells fc.toArray 4)=W1 at *
   go_wp2_with fail
   go_loopw [26] (fun v26 wr=>∃ (j:Nat) (m:List Nat),j≤i∧v26=.int .i64 j∧In w.heap.size w wr∧Bx wr g 4 (bcl (bl n m))∧Hid (markOk n [] ls.flatten=markOk n m (ls.drop j).flatten)) (fun v26 _=>i - (RowKit.intOf v26).toNat)
   case atStart=>exact⟨0,[],Nat.zero_le _,rfl,hin,bv,Lib.hid rfl⟩
   case round=>
    clear hin bv
    rename World=>wo
    obtain⟨j,m,hj,rfl,hin,bv,HM⟩:=hrel
    by_cases hjL:j<i
    ·have hjI:(j:Int)<i:=by omega
     have hj0:(0:Int)≤j:=by omega
     have hjw:IntKind.i64.wrap ((j:Int)+1)=((j+1:Nat):Int):=IntWalk.i64_in _ (by omega)
     have hjl:j<ls.length:=by rw[←HL.out];exact hjL
     obtain⟨b,off,x,xc,rfl,hb,hc,hx⟩:=HC.out j hjl
     have hd:=drop_getD ls [] hjl
     have hmem:ls.getD j []∈ls:=by rw[List.getD_eq_getElem?_getD,List.getElem?_eq_getElem hjl];exact List.getElem_mem _
     have hlen:=HLEN.out _ hmem
     obtain⟨l,hl9⟩:∃ l,l=ls.getD j []:=⟨_,rfl⟩
     rw[←hl9] at hc hd hx hlen
     obtain⟨K,hK⟩:∃ K,K=l.length:=⟨_,rfl⟩
     rw[←hK] at hc hlen
     rw[←hin.cell b _ hb] at hc
     have hbw:b<wo.heap.size:=by have:=hin.siz;omega
     have HM2:Hid (markOk n [] ls.flatten=markOk n m (l.drop 0 ++ (ls.drop (j+1)).flatten)):=Lib.hid (by rw[HM.out,hd];rfl)
     have HX:=Lib.hid hx
     have HK:=Lib.hid hK
     clear hd hl9 hmem hjl hx hK HM
     go_wp2_with fail
     clear hc hbw
     go_loopw [32] (fun v32 wr=>∃ (k:Nat) (m:List Nat),k≤K∧v32=.int .i64 k∧In w.heap.size w wr∧Bx wr g 4 (bcl (bl n m))∧Hid (markOk n [] ls.flatten=markOk n m (l.drop k ++ (ls.drop (j+1)).flatten))) (fun v32 _=>K - (RowKit.intOf v32).toNat)
     case atStart=>exact⟨0,m,Nat.zero_le _,rfl,hin,bv,HM2⟩
     case round=>
      clear hin bv HM2
      rename World=>wi
      obtain⟨k,m,hk,rfl,hin,bv,HM⟩:=hrel
      by_cases hkK:k<K
      ·have hkI:(k:Int)<K:=by omega
       have hk0:(0:Int)≤k:=by omega
       have hkw:IntKind.i64.wrap ((k:Int)+1)=((k+1:Nat):Int):=IntWalk.i64_in _ (by omega)
       have hkl:k<l.length:=by rw[←HK.out];exact hkK
       obtain⟨pb,po,rfl,hpb,hpc⟩:=HX.out k hkl
       have hd:=drop_getD l 0 hkl
       obtain⟨y,hy⟩:∃ y,y=l.getD k 0:=⟨_,rfl⟩
       rw[←hy] at hpc hd
       rw[←hin.cell pb _ hpb] at hpc
       have hpw:pb<wi.heap.size:=by have:=hin.siz;omega
       have hm:=HM.out
       rw[hd,List.cons_append,markOk] at hm
       clear hd hy hkl
       by_cases hy0:y<0
       ·have HEE:Hid (E=1):=Lib.hid (by have h2:markOk n [] ls.flatten=false:=(by rw[hm];exact if_neg (fun h=>by have:=h.1;omega));rw[HE2.out,h2];rfl)
        clear hm HM
        go_wp2_with fail
        go_ret
        exact⟨by rw[HEE.out];rfl,hin.bel⟩
       ·by_cases hyn:(n:Int)≤y
        ·have HEE:Hid (E=1):=Lib.hid (by have h2:markOk n [] ls.flatten=false:=(by rw[hm];exact if_neg (fun h=>by have:=h.2.1;omega));rw[HE2.out,h2];rfl)
         clear hm HM
         go_wp2_with fail
         go_ret
         exact⟨by rw[HEE.out];rfl,hin.bel⟩
        ·obtain⟨p,rfl⟩:=Int.eq_ofNat_of_zero_le (show 0≤y by omega)
         have hpn:p<n:=by omega
         have hpn':(p:Int)<n:=by omega
         have hp0:(0:Int)≤p:=by omega
         have c0:=(bv.cell p).trans (bcl_get m hpn)
         have f0:=bv.frozen p
         have hgl:=bv.lt
         rw[Int.toNat_natCast] at hm
         obtain⟨z,hz⟩:∃ z,z=m.contains p:=⟨_,rfl⟩
         rw[←hz] at c0 hm
         clear hz
         rcases z with _ | _
         ·rw[if_pos ⟨by omega,by omega,rfl⟩] at hm
          have hs:=bv.set p (.bool true)
          rw[bcl_set] at hs
          have H1:=Lib.hid hs
          have H2:=Lib.hid (hin.setCell (p:=⟨g,p,none⟩) HGW.out (.bool true))
          have H3:=Lib.hid hm
          clear hm HM hs bv hin
          go_wp2_with fail
          exact⟨⟨k+1,_,by omega,by go_num,H2.out,H1.out,H3⟩,by simp[RowKit.intOf];omega⟩
         ·have HEE:Hid (E=1):=Lib.hid (by have h2:markOk n [] ls.flatten=false:=(by rw[hm];exact if_neg (by simp));rw[HE2.out,h2];rfl)
          clear hm HM
          go_wp2_with fail
          go_ret
          exact⟨by rw[HEE.out];rfl,hin.bel⟩
      ·obtain rfl:k=K:=by omega
       have hkI:¬ (k:Int)<k:=by omega
       have HM3:Hid (markOk n [] ls.flatten=markOk n m (ls.drop (j+1)).flatten):=Lib.hid (by rw[HM.out,List.drop_eq_nil_of_le (by rw[←HK.out];omega)];rfl)
       clear HM
       go_wp2_with fail
       exact⟨⟨j+1,m,by omega,by go_num,hin,bv,HM3⟩,by simp[RowKit.intOf];omega⟩
    ·obtain rfl:j=i:=by omega
     have hjI:¬ (j:Int)<j:=by omega
     have HEE:Hid (E=0):=Lib.hid (by rw[HE2.out,HM.out,List.drop_eq_nil_of_le (by rw[←HL.out];omega)];rfl)
     clear HM
     go_wp2_with fail
     go_ret
     exact⟨by rw[HEE.out];rfl,hin.bel⟩
end Gus
end
section
namespace Gus
open Go Go.RowKit Go.Proofs
theorem markOk_iff {n:Nat}:∀ {xs:List Int} {m:List Nat},markOk n m xs=true↔∃ l:List Nat,xs=zl l∧(∀ i∈l,i<n)∧l.Nodup∧∀ i∈l,i ∉ m
 | [],m=>⟨fun _=>⟨[],rfl,by simp,List.nodup_nil,by simp⟩,fun _=>rfl⟩
 | x :: xs,m=>by
  rw[markOk]
  constructor
  ·intro h
   split at h
   ·rename_i hx
    obtain⟨l,h1,h2,h3,h4⟩:=markOk_iff.1 h
    refine⟨x.toNat :: l, ?_, ?_, ?_, ?_⟩
    ·unfold zl;rw[List.map_cons,←show zl l=l.map _ from rfl,←h1];congr 1;omega
    ·intro i hi
     rcases List.mem_cons.1 hi with rfl | hi
     ·omega
     ·exact h2 i hi
    ·refine List.nodup_cons.2 ⟨fun hm=>?_,h3⟩
     exact h4 _ hm (List.mem_append.2 (.inr (List.mem_singleton.2 rfl)))
    ·intro i hi
     rcases List.mem_cons.1 hi with rfl | hi
     ·have:=hx.2.2
      simpa using this
     ·exact fun hm=>h4 i hi (List.mem_append.2 (.inl hm))
   ·exact absurd h (by simp)
  ·rintro⟨l,h1,h2,h3,h4⟩
   rcases l with _ |⟨y,l⟩
   ·exact absurd h1 (by simp[zl])
   ·simp only[zl,List.map_cons,List.cons.injEq] at h1
    obtain⟨rfl,h1⟩:=h1
    have hy:=h2 y (.head _)
    have hm:=h4 y (.head _)
    rw[if_pos ⟨by omega,by omega,by rw[Int.toNat_natCast];simpa using hm⟩,Int.toNat_natCast]
    refine markOk_iff.2 ⟨l,h1,fun i hi=>h2 i (.tail _ hi),(List.nodup_cons.1 h3).2,fun i hi hh=>?_⟩
    rcases List.mem_append.1 hh with hh | hh
    ·exact h4 i (.tail _ hi) hh
    ·rw[List.mem_singleton.1 hh] at hi
     exact(List.nodup_cons.1 h3).1 hi
def Grp (n:Nat) (l:List Nat):Prop:=l.Nodup∧∀ i∈l,i<n
theorem Grp.le {n:Nat} {l:List Nat} (h:Grp n l):l.length≤n:=by
 have hs:=(split_outer h.1 h.2).len
 omega
theorem Grp.split {n:Nat} {l:List Nat} (h:Grp n l):Split n l (outer n l):=split_outer h.1 h.2
theorem zl_flat (gs:List (List Nat)):zl gs.flatten=(gs.map zl).flatten:=by
 unfold zl
 rw[List.map_flatten]
theorem grpE_ok {n:Nat} {gs:List (List Nat)} (hn:n≤2048) (h:Grp n gs.flatten):grpE n (gs.map zl)=0:=by
 unfold grpE
 rw[if_neg,if_pos]
 ·exact markOk_iff.2 ⟨gs.flatten,(zl_flat gs).symm,h.2,h.1,by simp⟩
 ·rw[Bool.not_eq_true,List.any_eq_false]
  intro x hx
  obtain⟨l,hl,rfl⟩:=List.mem_map.1 hx
  unfold longL
  rw[zl_length]
  have h1:l.length≤gs.flatten.length:=(List.sublist_flatten_of_mem hl).length_le
  have h2:=h.le
  simp only[decide_eq_true_eq]
  omega
theorem zl_split:∀ {ls:List (List Int)} {l:List Nat},ls.flatten=zl l→∃ gs:List (List Nat),ls=gs.map zl∧gs.flatten=l
 | [],l,h=>by
  refine⟨[],rfl, ?_⟩
  cases l with
  | nil=>rfl
  | cons a l=>simp[zl] at h
 | x :: ls,l,h=>by
  rw[List.flatten_cons] at h
  have h1:x=zl (l.take x.length):=((List.take_left (l₁:=x) (l₂:=ls.flatten)).symm.trans (congrArg (List.take x.length) h)).trans (by unfold zl;rw[List.map_take])
  have h2:ls.flatten=zl (l.drop x.length):=((List.drop_left (l₁:=x) (l₂:=ls.flatten)).symm.trans (congrArg (List.drop x.length) h)).trans (by unfold zl;rw[List.map_drop])
  obtain⟨gs,h3,h4⟩:=zl_split h2
  exact⟨l.take x.length :: gs,by rw[List.map_cons,←h3,←h1],by rw[List.flatten_cons,h4,List.take_append_drop]⟩
theorem grpE_zero {n:Nat} {ls:List (List Int)} (h:grpE n ls=0):∃ gs:List (List Nat),ls=gs.map zl∧Grp n gs.flatten:=by
 unfold grpE at h
 split at h
 ·exact absurd h (by decide)
 ·split at h
  ·rename_i hm
   obtain⟨l,h1,h2,h3,_⟩:=markOk_iff.1 hm
   obtain⟨gs,h4,h5⟩:=zl_split h1
   exact⟨gs,h4,by rw[h5];exact⟨h3,h2⟩⟩
  ·exact absurd h (by decide)
theorem gs_one {w:World} {b ca:Nat} {T:TypeId} {a:Option Addr} {l:List Int} (hB:Bx w b T [.slice a l.length ca]) (hx:IntsAt w a l):GsAt w (.slice (some ⟨b,0,none⟩) 1 1) [l]:=by
 refine⟨_,_,rfl,fun i hi=>?_⟩
 obtain rfl:i=0:=by simp at hi;omega
 exact⟨b,0,a,ca,rfl,hB.lt,hB.c0,hx⟩
set_option maxRecDepth 100000 in
set_option maxHeartbeats 4000000 in
theorem sdense_ok (w:World) (s v:Value) (n:Nat) (F:Mx) (ls:List (List Int)) (hS:SpM w s n n F) (hn:n≤2048) (hg:GsAt w v ls) (hl:ls.length≤4096) :
  Calls Tryz.prog 48 #[s,v] w fun e w'=>(∃ d,e=.returned (.tuple #[d,.int .i64 (grpE n ls)])∧MatS w' d n n F)∧Below w.heap.size w w':=by
 obtain⟨sa,sc,rfl⟩:=hS.shape
 have HG:=Lib.hid hg
 obtain⟨ga,gc,rfl⟩:=hg.shape
 obtain⟨L,hL⟩:∃ L,L=ls.length:=⟨_,rfl⟩
 rw[←hL] at HG ⊢
 obtain⟨E,hE⟩:∃ E,E=grpE n ls:=⟨_,rfl⟩
 rw[←hE]
 have HE:=Lib.hid hE
 have HLL:Hid (ls.length≤4096):=Lib.hid hl
 clear hg hE hL hl
 go_enter Tryz.func48,Tryz.ntmps48
 go_upto_region 1 with fail
 ((obtain⟨X,hXX⟩:∃ z,z=w.heap.size:=⟨_,rfl⟩);(have bV0:=((Bx.new_at w #[.int .i64 n,.int .i64 n,.slice sa n sc] 27 (n:=X) (by simp[hXX])).alloc (.cells #[.int .i64 0,.int .i64 0,.slice none 0 0] 37)));(have bV1:=(Bx.new_at (w.alloc (.cells #[.int .i64 n,.int .i64 n,.slice sa n sc] 27)) #[.int .i64 0,.int .i64 0,.slice none 0 0] 37 (n:=X+1) (by simp[hXX])));(have hV:=(((In.self w).alloc (.cells #[.int .i64 n,.int .i64 n,.slice sa n sc] 27)).alloc (.cells #[.int .i64 0,.int .i64 0,.slice none 0 0] 37)));(rw[←hXX] at hV ⊢);(have HX:=Lib.hid hXX);clear hXX;(generalize (w.alloc (.cells #[.int .i64 n,.int .i64 n,.slice sa n sc] 27)).alloc (.cells #[.int .i64 0,.int .i64 0,.slice none 0 0] 37)=V at *))
 have hV0:=hV
 rw[HX.out] at hV0
 replace hS:=hS.call hV0.bel
 have hgv:=HG.out.call hV0.bel
 have cd:=dense_okc V _ n n F hS hn hn
 clear hV0 HG hS
 (have x0:=bV0.c0;have x1:=bV0.c1;have x2:=bV0.c2;have xl:=bV0.lt)
 (go_wp2_with fail;(((with_reducible refine(cd).mono ?_)));(rintro e wc1 ⟨⟨g,N,hN,rfl,hv⟩,hb⟩);clear x0 x1 x2 xl cd;replace hV:=hV.call hb;replace hgv:=hgv.call hb;replace bV0:=bV0.call hb;replace bV1:=bV1.call hb;clear hb)
 have HN:=Lib.hid hN
 clear hN
 go_upto_region 2 with fail
 ((obtain⟨M,hM⟩:∃ z,z=wc1.heap.size:=⟨_,rfl⟩);(have bM:=Bx.new_at wc1 #[.int .i64 n,.int .i64 n,.slice (some ⟨g,0,none⟩) N N] 37 hM);(replace hV:=hV.alloc (.cells #[.int .i64 n,.int .i64 n,.slice (some ⟨g,0,none⟩) N N] 37));(replace bV0:=bV0.alloc (.cells #[.int .i64 n,.int .i64 n,.slice (some ⟨g,0,none⟩) N N] 37));(replace bV1:=bV1.alloc (.cells #[.int .i64 n,.int .i64 n,.slice (some ⟨g,0,none⟩) N N] 37));(replace hgv:=hgv.call ((Below.refl _ _).alloc (Nat.le_refl _) (.cells #[.int .i64 n,.int .i64 n,.slice (some ⟨g,0,none⟩) N N] 37)));(replace hv:=hv.call ((Below.refl _ _).alloc (Nat.le_refl _) (.cells #[.int .i64 n,.int .i64 n,.slice (some ⟨g,0,none⟩) N N] 37)));(rw[←hM]);clear hM;(generalize wc1.alloc (.cells #[.int .i64 n,.int .i64 n,.slice (some ⟨g,0,none⟩) N N] 37)=W2 at *))
 have hm:MatS W2 (.agg #[.int .i64 n,.int .i64 n,.slice (some ⟨g,0,none⟩) N N]) n n F:=⟨g,N,HN.out,rfl,hv⟩
 have HM:=Lib.hid hm
 have cg:=fun W (h:In (World.heap W2).size W2 W)=>sgroup_any W n hn _ ls (hgv.call h.bel) HLL.out
 rw[←HE.out] at cg
 (have x0:=bV0.c0;have x1:=bV0.c1;have x2:=bV0.c2;have xl:=bV0.lt)
 (have y0:=bM.c0;have y1:=bM.c1;have y2:=bM.c2;have yl:=bM.lt)
 clear hm
 go_upto_region 6 with fail
 have h:=In.self W2;have hc:=h.cell;have hf:=h.frozen;refine tfw 5 ?_;refine tset ?_;(repeat (first | refine tfs ?_ |((first |((with_reducible refine flow_pure0 (v:=?_) ?_ ?_ ?_ ?_);rotate_left 1;exact trr;exact trf)|((with_reducible refine flow_pureg (v:=?_) (j:=?_) (b:=?_) ?_ ?_ ?_ ?_);rotate_left 3;exact trr;(focus (intro u w1 hw hd;replace hd:=thn hd;simp[yielded,hd];done))));(focus (intro u w1 hw hd;replace hd:=thn hd;have hc':=hw.cell;go_simp;go_at_call 46;((with_reducible refine(cg _ hw.ins).mono ?_));rintro e w'' ⟨rfl,hb⟩;refine⟨?_,hb⟩;exact rfl)))| fail))
 (try clear hc hf h);intro u w' h ha hdi;replace h:=tsz h.ins;replace ha:=tah ha;have hc:=h.cell;have hf:=h.frozen
 (try obtain ha:=ha);(try dsimp only);simp only[ha];clear ha hdi
 have hin:=hV.call h.bel
 have bq:=bV1.call h.bel
 have hd:=HM.out.call h.bel
 clear hc hf h hV bV0 bV1 bM x0 x1 x2 xl y0 y1 y2 yl hv hgv cg
 ((have K5:=Lib.hid (hd.put3 (p':=((n:Nat):Int)) (q':=((n:Nat):Int)) (ao':=(some ⟨g,0,none⟩)) (n':=N) (k':=N) bq));
       have r0:=bq.c0;
       have r1:=bq.c1;
       have r2:=bq.c2;
       (have f0:=bq.frozen 0);
       (have f1:=bq.frozen 1);
       (have f2:=bq.frozen 2);
       have ql:=bq.lt;
       (have K1:=Lib.hid (((bq.set 0 (.int .i64 ((n:Nat):Int))).set 1 (.int .i64 ((n:Nat):Int))).set 2 (.slice (some ⟨g,0,none⟩) N N)));
       (have K2:=Lib.hid (((hin.setCell (p:=⟨(X+1),0,none⟩) (by first |(simp;done)|(have:=HX.out;simp;omega)) (.int .i64 ((n:Nat):Int))).setCell (p:=⟨(X+1),1,none⟩) (by first |(simp;done)|(have:=HX.out;simp;omega)) (.int .i64 ((n:Nat):Int))).setCell (p:=⟨(X+1),2,none⟩) (by first |(simp;done)|(have:=HX.out;simp;omega)) (.slice (some ⟨g,0,none⟩) N N)));
       clear bq hin hd;
       go_wp2_with fail;
       have k1:=K1.out;
       have k2:=K2.out;
       have hm:=K5.out;
       clear r0 r1 r2 f0 f1 f2 ql K1 K2 K5;
       (generalize (((w'.setCell ⟨(X+1),0,none⟩ (.int .i64 ((n:Nat):Int))).setCell ⟨(X+1),1,none⟩ (.int .i64 ((n:Nat):Int))).setCell ⟨(X+1),2,none⟩ (.slice (some ⟨g,0,none⟩) N N))=W9 at *);
       (have e0:W9.cell? ⟨(X+1),0,none⟩=some (.int .i64 ((n:Nat):Int)):=k1.cell 0);
       (have e1:W9.cell? ⟨(X+1),1,none⟩=some (.int .i64 ((n:Nat):Int)):=k1.cell 1);
       (have e2:W9.cell? ⟨(X+1),2,none⟩=some (.slice (some ⟨g,0,none⟩) N N):=k1.cell 2);
       have hz:=k2.bel;
       (refine bodyPost_ret (v:=.tuple #[.agg #[.int .i64 ((n:Nat):Int),.int .i64 ((n:Nat):Int),.slice (some ⟨g,0,none⟩) N N],.int .i64 E]) ?_ rfl ⟨⟨_,rfl,hm⟩,by rw[←HX.out];exact hz⟩);
       (simp[results,Tryz.results48,go_sem,e0,e1,e2]))
def lenE (k:Nat) (n:Int):Int:=if 2048<k then 3 else if (k:Int)=n then 0 else 1
set_option maxRecDepth 100000 in
set_option maxHeartbeats 2000000 in
theorem slength_any (w:World) (a:Option Addr) (k c:Nat) (n:Int) :
  Calls Tryz.prog 53 #[.slice a k c,.int .i64 n] w fun e w'=>e=.returned (.int .i64 (lenE k n))∧Below w.heap.size w w':=by
 have hbel:=Below.refl w.heap.size w
 unfold lenE
 by_cases h1:2048<k
 ·have k1:(2048:Int)<k:=by omega
  rw[if_pos h1]
  go_enter Tryz.func53,Tryz.ntmps53
  go_wp2_with fail
  go_ret
  exact⟨rfl,hbel⟩
 ·have k1:¬ (2048:Int)<k:=by omega
  rw[if_neg h1]
  by_cases h2:(k:Int)=n
  ·have k2:((k:Int) != n)=false:=by rw[h2];simp
   rw[if_pos h2]
   clear h2
   go_enter Tryz.func53,Tryz.ntmps53
   go_wp2_with fail
   go_ret
   exact⟨rfl,hbel⟩
  ·have k2:((k:Int) != n)=true:=by simpa using h2
   rw[if_neg h2]
   clear h2
   go_enter Tryz.func53,Tryz.ntmps53
   go_wp2_with fail
   go_ret
   exact⟨rfl,hbel⟩
def outE (n:Int) (xs:List Int):Int:=if n<0 then 1 else if 2048<n then 3 else grpE n.toNat [xs]
def OuterP (w:World) (E:Int) (n:Nat) (xs:List Int) (e:Ending) (w':World):Prop:=((E≠0∧e=.returned (.tuple #[.slice none 0 0,.int .i64 E]))∨(E=0∧∃ d l,e=.returned (.tuple #[d,.int .i64 0])∧xs=zl l∧Grp n l∧n≤2048∧GrpAt w' d (outer n l)))∧Below w.heap.size w w'
set_option maxRecDepth 100000 in
set_option maxHeartbeats 4000000 in
theorem souter_any (w:World) (n:Int) (a:Option Addr) (ca:Nat) (xs:List Int) (hx:IntsAt w a xs) :
  Calls Tryz.prog 13 #[.int .i64 n,.slice a xs.length ca] w (OuterP w (outE n xs) n.toNat xs):=by
 have hbel:=Below.refl w.heap.size w
 by_cases h1:n<0
 ·have hE:outE n xs=1:=by unfold outE;rw[if_pos h1]
  rw[hE]
  clear hE hx
  go_enter Tryz.func13,Tryz.ntmps13
  go_wp2_with fail
  exact bodyPost_ret (v:=.tuple #[.slice none 0 0,.int .i64 1]) (by simp[results,Tryz.results13,go_sem]) rfl ⟨.inl ⟨by decide,rfl⟩,hbel⟩
 ·by_cases h2:2048<n
  ·have hE:outE n xs=3:=by unfold outE;rw[if_neg h1,if_pos h2]
   rw[hE]
   clear hE hx
   go_enter Tryz.func13,Tryz.ntmps13
   go_wp2_with fail
   exact bodyPost_ret (v:=.tuple #[.slice none 0 0,.int .i64 3]) (by simp[results,Tryz.results13,go_sem]) rfl ⟨.inl ⟨by decide,rfl⟩,hbel⟩
  ·obtain⟨m,rfl⟩:=Int.eq_ofNat_of_zero_le (show 0≤n by omega)
   have hm:m≤2048:=by omega
   have hE:outE (m:Int) xs=grpE m [xs]:=by unfold outE;rw[if_neg h1,if_neg h2,Int.toNat_natCast]
   rw[hE,Int.toNat_natCast]
   have HX:=Lib.hid hx
   obtain⟨E,hEE⟩:∃ E,E=grpE m [xs]:=⟨_,rfl⟩
   rw[←hEE]
   have cg:=fun W v (h:GsAt W v [xs])=>sgroup_any W m hm v [xs] h (by simp)
   rw[←hEE] at cg
   have HE:=Lib.hid hEE
   obtain⟨L,hL⟩:∃ L,L=xs.length:=⟨_,rfl⟩
   rw[←hL]
   have HL:=Lib.hid hL
   have hin:=In.self w
   clear hE hx hEE hL hbel
   go_enter Tryz.func13,Tryz.ntmps13
   go_wp2_with fail
   ((with_reducible refine(cg _ _ ?gs).mono ?_))
   case gs=>
    have hb:=Bx.new_at w #[.slice a L ca] 22 rfl
    rw[HL.out] at hb ⊢
    exact gs_one hb (HX.out.call ((In.self w).alloc _).bel)
   rintro e w2 ⟨rfl,hb⟩
   replace hin:=(hin.alloc (.cells #[.slice a L ca] 22)).call hb
   clear hb cg
   by_cases hE0:E=0
   ·subst hE0
    obtain⟨gs,h3,h4⟩:=grpE_zero HE.out.symm
    obtain⟨l,rfl,hl⟩:∃ l,xs=zl l∧Grp m l:=by
     rcases gs with _ |⟨l,_ |⟨y,gs⟩⟩
     ·exact absurd h3 (by simp)
     ·exact⟨l,by simpa using h3,by simpa using h4⟩
     ·exact absurd h3 (by simp)
    have hLl:L=l.length:=by rw[HL.out,zl_length]
    have cr:=srest_any w2 m hm a ca l (HX.out.call hin.bel) hl.le hl.2
    rw[←hLl] at cr
    have HG:=Lib.hid hl
    clear h3 h4 hl hLl
    go_wp2_with fail
    (with_reducible refine cr.mono ?_)
    rintro e w3 ⟨⟨d,rfl,hd⟩,hb⟩
    obtain⟨da,dc,rfl⟩:=hd.shape
    have H1:=Lib.hid hd
    have hbel:=(hin.call hb).bel
    clear hd hb cr
    go_wp2_with fail
    exact bodyPost_ret (v:=.tuple #[.slice da (outer m l).length dc,.int .i64 0]) (by simp[results,Tryz.results13,go_sem]) rfl ⟨.inr ⟨rfl,_,l,rfl,rfl,HG.out,hm,H1.out⟩,hbel⟩
   ·have k1:(E != 0)=true:=by simpa using hE0
    have HNE:=Lib.hid hE0
    clear hE0
    have hbel:=hin.bel
    go_wp2_with fail
    exact bodyPost_ret (v:=.tuple #[.slice none 0 0,.int .i64 E]) (by simp[results,Tryz.results13,go_sem]) rfl ⟨.inl ⟨HNE.out,rfl⟩,hbel⟩
end Gus
end
