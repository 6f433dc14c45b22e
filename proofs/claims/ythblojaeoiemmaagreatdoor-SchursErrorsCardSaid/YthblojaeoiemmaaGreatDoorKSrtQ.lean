/- Proved here: parts of the proof: KSrt KSru KSrv KCjl. Conditions: those that each theorem states. -/
import Derived.Test.YthblojaeoiemmaaGreatDoorKSrlQ
section
namespace Gus
open Go Go.RowKit Go.Proofs
def sqE (n m:Int):Int:=if n<0∨m<0 then 1 else if 2048<n∨2048<m then 3 else if n≠m then 1 else 0
def oneE (n m:Int) (xs:List Int):Int:=if sqE n m≠0 then sqE n m else if allDif n xs=true then 0 else 1
def MatE (w:World) (s:Value) (n m:Int):Prop:=(sqE n m≠0∧∀ xs,DenE w s xs (sqE n m))∨(sqE n m=0∧∃ k:Nat,n=k∧k≤12∧m=k∧SpM w s k k zM)
theorem MatE.call {w w':World} {s:Value} {n m:Int} (h:MatE w s n m) (hb:Below w.heap.size w w'):MatE w' s n m:=
 h.imp (fun⟨h1,h2⟩=>⟨h1,fun xs=>(h2 xs).call hb⟩) fun⟨h1,k,h2,h3,h4,h5⟩=>⟨h1,k,h2,h3,h4,h5.call hb⟩
theorem den_view {w:World} {s:Value} {n m:Int} (h:MatE w s n m) {ls:List (List Int)} (hl:ls.length≤4096) (hx:∀ l∈ls,l.length≤2048):DenE w s ls (oneE n m ls.flatten):=by
 unfold oneE
 rcases h with ⟨h1,h2⟩|⟨h1,k,rfl,h3,rfl,h5⟩
 ·rw[if_pos h1];exact h2 ls
 ·rw[if_neg (fun g=>g h1),←grp_adf hx]
  exact denE_grp h5 (by omega) ls hl
theorem mate_ok {w:World} {s:Value} {n m:Int} {xs:List Int} (h:MatE w s n m) (h0:oneE n m xs=0):∃ (k:Nat) (l:List Nat),n=k∧k≤12∧m=k∧SpM w s k k zM∧xs=zl l∧Grp k l:=by
 unfold oneE at h0
 rcases h with ⟨h1,_⟩|⟨h1,k,h2,h3,h4,h5⟩
 ·rw[if_pos h1] at h0;exact absurd h0 h1
 ·rw[if_neg (fun g=>g h1)] at h0
  by_cases hd:allDif n xs=true
  ·rw[h2] at hd
   obtain⟨l,h6,h7⟩:=adf_grp.1 hd
   exact⟨k,l,h2,h3,h4,h5,h6,h7⟩
  ·rw[if_neg hd] at h0;exact absurd h0 (by decide)
theorem z_p5:∀ a,a<13→5*(64*5 ^ a)+2<17592186044416:=by decide +kernel
theorem z_ez:∀ a,a<13→∀ o,o<13→ez a o 64 64<17592186044416:=by decide +kernel
theorem z_ez2:∀ o,o<13→64+(1+o*(64+64+1))+1<17592186044416:=by decide +kernel
theorem z_gz {l:List Nat} (h:NS l.length (sub zM l l)):gz l.length 64<17592186044416:=by
 rw[zM_grp h,List.length_nil,gz_nil];decide
theorem zM_64 (n:Nat):Mz n n 64 zM:=(zM_z n).mono (by decide)
theorem goE_refl (E:Int):GoE E E:=.inl rfl
theorem goE_six:GoE 6 0:=.inr ⟨rfl,rfl⟩
def OutV (W:Int) (w:World) (e:Ending) (w':World):Prop:=(∃ (a:Option Addr) (l k:Nat),e=.returned (.tuple #[.slice a l k,.int .i64 W])∧(W=0∨l=0))∧Below w.heap.size w w'
def outW (n:Int) (xs:List Int):Int:=if n<0 then 1 else if 2048<n then 3 else if allDif n xs=true then 0 else 1
theorem outer_view (w:World) (n:Int) (a:Option Addr) (c:Nat) (xs:List Int) (hx:IntsAt w a xs) (hl:xs.length≤2048) :
  Calls Tryz.prog 13 #[.int .i64 n,.slice a xs.length c] w (OutV (outW n xs) w):=by
 have e:outE n xs=outW n xs:=by
  unfold outE outW
  by_cases h1:n<0
  ·rw[if_pos h1,if_pos h1]
  ·rw[if_neg h1,if_neg h1]
   by_cases h2:2048<n
   ·rw[if_pos h2,if_pos h2]
   ·rw[if_neg h2,if_neg h2,grp_adf (fun l h=>by simp only[List.mem_cons,List.not_mem_nil,or_false] at h;subst h;exact hl)]
    rw[List.flatten_singleton,Int.toNat_of_nonneg (by omega)]
 refine(souter_any w n a c xs hx).mono ?_
 rintro e' w' ⟨h,hb⟩
 refine⟨?_,hb⟩
 rw[e] at h
 rcases h with ⟨_,rfl⟩|⟨h0,d,l,rfl,_,_,_,h4⟩
 ·exact⟨none,0,0,rfl,.inr rfl⟩
 ·obtain⟨da,dc,rfl⟩:=h4.shape
  rw[h0];exact⟨da,_,dc,rfl,.inl rfl⟩
def MatV (W:Int) (w:World) (e:Ending) (w':World):Prop:=(∃ (r c:Int) (a:Option Addr) (l k:Nat) (E:Int),e=.returned (.tuple #[.agg #[.int .i64 r,.int .i64 c,.slice a l k],.int .i64 E])∧GoE E W∧(E=0∨(l=0∧r=0)))∧Below w.heap.size w w'
def VecV (W:Int) (w:World) (e:Ending) (w':World):Prop:=(∃ (a:Option Addr) (l k:Nat) (E:Int),e=.returned (.tuple #[.slice a l k,.int .i64 E])∧GoE E W∧(E=0∨l=0))∧Below w.heap.size w w'
def MatVV (W:Int) (w:World) (e:Ending) (w':World):Prop:=(∃ (r c:Int) (a:Option Addr) (l k:Nat) (b:Option Addr) (p q:Nat) (E:Int),e=.returned (.tuple #[.agg #[.int .i64 r,.int .i64 c,.slice a l k],.slice b p q,.int .i64 E])∧GoE E W∧(E=0∨(l=0∧p=0)))∧Below w.heap.size w w'
section
variable {w:World} {n m:Int} {sa:Option Addr} {sl sc:Nat}
theorem one_list {xs:List Int} (hl:xs.length≤9):∀ l∈[xs],l.length≤2048:=fun l h=>by
 simp only[List.mem_cons,List.not_mem_nil,or_false] at h
 subst h;omega
theorem compl_view (h:MatE w (.agg #[.int .i64 n,.int .i64 m,.slice sa sl sc]) n m) (a0:Option Addr) (c0:Nat) (xs:List Int) (hx:IntsAt w a0 xs) (hl:xs.length≤9) :
  Calls Tryz.prog 14 #[.agg #[.int .i64 n,.int .i64 m,.slice sa sl sc],.slice a0 xs.length c0] w (MatV (oneE n m xs) w):=by
 by_cases h0:oneE n m xs=0
 ·obtain⟨k,l,rfl,h3,rfl,h5,rfl,h7⟩:=mate_ok h h0
  have hle:=h7.le
  rw[zl_length] at hl ⊢
  refine(scomplement_ok (z:=64) w _ (.slice a0 l.length c0) k l zM h5 ⟨a0,c0,rfl,hx⟩ h7 (by omega) (by decide) (zM_64 k) (z_p5 _ (by omega)) z_gz).mono ?_
  rintro e w' ⟨hI,hb⟩
  refine⟨?_,hb⟩
  rw[h0]
  rcases hI with ⟨_,d,rfl,hd⟩|⟨_,rfl⟩
  ·obtain⟨g,N,_,rfl,_⟩:=hd
   exact⟨_,_,_,_,_,_,rfl,goE_refl 0,.inl rfl⟩
  ·exact⟨_,_,_,_,_,_,rfl,goE_six,.inr ⟨rfl,rfl⟩⟩
 ·have hd:=den_view h (ls:=[xs]) (by simp) (one_list hl)
  rw[List.flatten_singleton] at hd
  refine(scomplement_err w n m sa sl sc a0 c0 xs hx _ h0 hd).mono ?_
  rintro e w' ⟨rfl,hb⟩
  exact⟨⟨_,_,_,_,_,_,rfl,goE_refl _,.inr ⟨rfl,rfl⟩⟩,hb⟩
def sideE (n m:Int) (xs:List Int) (len:Nat):Int:=if oneE n m xs=0∧(len:Int)≠n then 1 else oneE n m xs
theorem len_bad {len:Nat} {n:Int} (h9:len≤9) (h:(len:Int)≠n):lenE len n=1:=by
 unfold lenE
 rw[if_neg (by omega),if_neg h]
theorem len_good {len:Nat} {n:Int} (h9:len≤9) (h:(len:Int)=n):lenE len n=0:=by
 unfold lenE
 rw[if_neg (by omega),if_pos h]
theorem red_view (h:MatE w (.agg #[.int .i64 n,.int .i64 m,.slice sa sl sc]) n m) (a0:Option Addr) (c0:Nat) (xs:List Int) (hx:IntsAt w a0 xs) (hl:xs.length≤9) (ba:Option Addr) (bl bc:Nat) (b:Vc) (hb:VecAt w (.slice ba bl bc) (vl bl b)) (hbz:∀ i,SzK 64 (b i)) (hb9:bl≤9) :
  Calls Tryz.prog 15 #[.agg #[.int .i64 n,.int .i64 m,.slice sa sl sc],.slice a0 xs.length c0,.slice ba bl bc] w (MatVV (sideE n m xs bl) w):=by
 have hd:=den_view h (ls:=[xs]) (by simp) (one_list hl)
 rw[List.flatten_singleton] at hd
 unfold sideE
 by_cases h0:oneE n m xs=0
 ·by_cases hln:(bl:Int)=n
  ·rw[if_neg (fun g=>g.2 hln)]
   obtain⟨k,l,rfl,h3,rfl,h5,rfl,h7⟩:=mate_ok h h0
   have hle:=h7.le
   obtain rfl:bl=k:=by omega
   rw[zl_length] at hl ⊢
   refine(sreduced_ok (z:=64) w _ (.slice a0 l.length c0) (.slice ba bl bc) bl l zM b hb (fun i _=>hbz i) h5 ⟨a0,c0,rfl,hx⟩ h7 (by omega) (by decide) (zM_64 bl) (z_p5 _ (by omega)) z_gz).mono ?_
   rintro e w' ⟨hI,hb⟩
   refine⟨?_,hb⟩
   rw[h0]
   rcases hI with ⟨_,d,v,rfl,hd,hv⟩|⟨_,rfl⟩
   ·obtain⟨g,N,_,rfl,_⟩:=hd
    obtain⟨va,vc,rfl⟩:=hv.shape
    exact⟨_,_,_,_,_,_,_,_,_,rfl,goE_refl 0,.inl rfl⟩
   ·exact⟨_,_,_,_,_,_,_,_,_,rfl,goE_six,.inr ⟨rfl,rfl⟩⟩
  ·rw[if_pos ⟨h0,hln⟩]
   rw[h0] at hd
   refine(sreduced_err w n m sa sl sc a0 xs.length c0 ba bl bc 1 (by decide) fun W hW=>sbegin_errL W n m sa sl sc a0 c0 xs (hx.call hW) ba bl bc 1 (by decide) (hd.call hW) (len_bad hb9 hln)).mono ?_
   rintro e w' ⟨rfl,hb⟩
   exact⟨⟨_,_,_,_,_,_,_,_,_,rfl,goE_refl _,.inr ⟨rfl,rfl⟩⟩,hb⟩
 ·rw[if_neg (fun g=>h0 g.1)]
  refine(sreduced_err w n m sa sl sc a0 xs.length c0 ba bl bc _ h0 fun W hW=>sbegin_errD W n m sa sl sc a0 c0 xs (hx.call hW) ba bl bc _ h0 (hd.call hW)).mono ?_
  rintro e w' ⟨rfl,hb⟩
  exact⟨⟨_,_,_,_,_,_,_,_,_,rfl,goE_refl _,.inr ⟨rfl,rfl⟩⟩,hb⟩
theorem solve_view (h:MatE w (.agg #[.int .i64 n,.int .i64 m,.slice sa sl sc]) n m) (a0:Option Addr) (c0:Nat) (xs:List Int) (hx:IntsAt w a0 xs) (hl:xs.length≤9) (ba:Option Addr) (bl bc:Nat) (b:Vc) (hb:VecAt w (.slice ba bl bc) (vl bl b)) (hbz:∀ i,SzK 64 (b i)) (hb9:bl≤9) :
  Calls Tryz.prog 17 #[.agg #[.int .i64 n,.int .i64 m,.slice sa sl sc],.slice a0 xs.length c0,.slice ba bl bc] w (VecV (sideE n m xs bl) w):=by
 have hd:=den_view h (ls:=[xs]) (by simp) (one_list hl)
 rw[List.flatten_singleton] at hd
 unfold sideE
 by_cases h0:oneE n m xs=0
 ·by_cases hln:(bl:Int)=n
  ·rw[if_neg (fun g=>g.2 hln)]
   obtain⟨k,l,rfl,h3,rfl,h5,rfl,h7⟩:=mate_ok h h0
   have hle:=h7.le
   obtain rfl:bl=k:=by omega
   rw[zl_length] at hl ⊢
   refine(sSolve_ok (z:=64) w _ (.slice a0 l.length c0) (.slice ba bl bc) bl l zM b hb (fun i _=>hbz i) h5 ⟨a0,c0,rfl,hx⟩ h7 (by omega) (by decide) (zM_64 bl) (nestC1 h3 (by decide) (fun _ _ _ _=>rfl) h7)).mono ?_
   rintro e w' ⟨hI,hb⟩
   refine⟨?_,hb⟩
   rw[h0]
   rcases hI with ⟨_,d,rfl,hd⟩|⟨_,rfl⟩
   ·obtain⟨va,vc,rfl⟩:=hd.shape
    exact⟨_,_,_,_,rfl,goE_refl 0,.inl rfl⟩
   ·exact⟨_,_,_,_,rfl,goE_six,.inr rfl⟩
  ·rw[if_pos ⟨h0,hln⟩]
   rw[h0] at hd
   refine(sSolve_err w n m sa sl sc a0 c0 xs hx ba bl bc 1 fun W gv hW hg=>sNested_errL W n m sa sl sc gv [xs] hg ba bl bc 1 (by decide) (hd.call hW) (len_bad hb9 hln)).mono ?_
   rintro e w' ⟨rfl,hb⟩
   exact⟨⟨_,_,_,_,rfl,goE_refl _,.inr rfl⟩,hb⟩
 ·rw[if_neg (fun g=>h0 g.1)]
  refine(sSolve_err w n m sa sl sc a0 c0 xs hx ba bl bc _ fun W gv hW hg=>sNested_errD W n m sa sl sc gv [xs] hg ba bl bc _ h0 (hd.call hW)).mono ?_
  rintro e w' ⟨rfl,hb⟩
  exact⟨⟨_,_,_,_,rfl,goE_refl _,.inr rfl⟩,hb⟩
def twoE (n m:Int) (xs ys:List Int) (len:Nat):Int:=if oneE n m (xs ++ ys)=0∧(len:Int)≠n then 1 else oneE n m (xs ++ ys)
theorem nested_view (h:MatE w (.agg #[.int .i64 n,.int .i64 m,.slice sa sl sc]) n m) (ga:Option Addr) (xs ys:List Int) (hg:GsAt w (.slice ga 2 2) [xs,ys]) (hl:xs.length≤9) (hl2:ys.length≤9) (ba:Option Addr) (bl bc:Nat) (b:Vc) (hb:VecAt w (.slice ba bl bc) (vl bl b)) (hbz:∀ i,SzK 64 (b i)) (hb9:bl≤9) :
  Calls Tryz.prog 18 #[.agg #[.int .i64 n,.int .i64 m,.slice sa sl sc],.slice ga 2 2,.slice ba bl bc] w (VecV (twoE n m xs ys bl) w):=by
 have hd:=den_view h (ls:=[xs,ys]) (by simp) (fun l h=>by
  simp only[List.mem_cons,List.not_mem_nil,or_false] at h
  rcases h with rfl | rfl <;> omega)
 have hf:([xs,ys]:List (List Int)).flatten=xs ++ ys:=by simp
 rw[hf] at hd
 unfold twoE
 by_cases h0:oneE n m (xs ++ ys)=0
 ·by_cases hln:(bl:Int)=n
  ·rw[if_neg (fun g=>g.2 hln)]
   obtain⟨k,l,rfl,h3,rfl,h5,h6,h7⟩:=mate_ok h h0
   obtain rfl:bl=k:=by omega
   obtain⟨gs,hgs,hfl⟩:=zl_split (ls:=[xs,ys]) (hf.trans h6)
   obtain⟨x,y,rfl⟩:∃ x y,gs=[x,y]:=by
    have h8:=congrArg List.length hgs
    rw[List.length_map] at h8
    match gs,h8 with
    | [x,y],_=>exact⟨x,y,rfl⟩
   rw[hgs] at hg
   have hG:Grp bl ([x,y]:List (List Nat)).flatten:=by rw[hfl];exact h7
   refine(sNested_ok (z:=64) w _ (.slice ga 2 2) (.slice ba bl bc) bl [x,y] zM b hb (fun i _=>hbz i) h5 hg ⟨_,_,_,rfl,Nat.le_refl _⟩ hG (by simp) (by omega) (by decide) (zM_64 bl) (nestC2 h3 (by decide) (fun _ _ _ _=>rfl) hG)).mono ?_
   rintro e w' ⟨hI,hb⟩
   refine⟨?_,hb⟩
   rw[h0]
   rcases hI with ⟨_,d,rfl,hd⟩|⟨_,rfl⟩
   ·obtain⟨va,vc,rfl⟩:=hd.shape
    exact⟨_,_,_,_,rfl,goE_refl 0,.inl rfl⟩
   ·exact⟨_,_,_,_,rfl,goE_six,.inr rfl⟩
  ·rw[if_pos ⟨h0,hln⟩]
   rw[h0] at hd
   refine(sNested_errL w n m sa sl sc _ [xs,ys] hg ba bl bc 1 (by decide) hd (len_bad hb9 hln)).mono ?_
   rintro e w' ⟨rfl,hb⟩
   exact⟨⟨_,_,_,_,rfl,goE_refl _,.inr rfl⟩,hb⟩
 ·rw[if_neg (fun g=>h0 g.1)]
  refine(sNested_errD w n m sa sl sc _ [xs,ys] hg ba bl bc _ h0 hd).mono ?_
  rintro e w' ⟨rfl,hb⟩
  exact⟨⟨_,_,_,_,rfl,goE_refl _,.inr rfl⟩,hb⟩
def farE (n m:Int) (xs:List Int) (len lw:Nat):Int:=if oneE n m xs=0∧((len:Int)≠n∨(lw:Int)≠n - xs.length) then 1 else oneE n m xs
theorem ext_view (h:MatE w (.agg #[.int .i64 n,.int .i64 m,.slice sa sl sc]) n m) (a0:Option Addr) (c0:Nat) (xs:List Int) (hx:IntsAt w a0 xs) (hl:xs.length≤9) (ba:Option Addr) (bl bc:Nat) (b:Vc) (hb:VecAt w (.slice ba bl bc) (vl bl b)) (hbz:∀ i,SzK 64 (b i)) (hb9:bl≤9)
  (ya:Option Addr) (yl yc:Nat) (y:Vc) (hy:VecAt w (.slice ya yl yc) (vl yl y)) (hyz:∀ i,SzK 64 (y i)) (hy9:yl≤9) :
  Calls Tryz.prog 16 #[.agg #[.int .i64 n,.int .i64 m,.slice sa sl sc],.slice a0 xs.length c0,.slice ba bl bc,.slice ya yl yc] w (VecV (farE n m xs bl yl) w):=by
 have hd:=den_view h (ls:=[xs]) (by simp) (one_list hl)
 rw[List.flatten_singleton] at hd
 unfold farE
 by_cases h0:oneE n m xs=0
 ·by_cases hln:(bl:Int)=n
  ·by_cases hly:(yl:Int)=n - xs.length
   ·rw[if_neg (fun g=>g.2.elim (fun g=>g hln) (fun g=>g hly))]
    obtain⟨k,l,rfl,h3,rfl,h5,rfl,h7⟩:=mate_ok h h0
    have hle:=h7.le
    have hsp:=h7.split.len
    obtain rfl:bl=k:=by omega
    rw[zl_length] at hl hly ⊢
    have hO:(outer bl l).length=yl:=by omega
    refine(sextend_ok (z:=64) (yz:=64) w _ (.slice a0 l.length c0) (.slice ba bl bc) (.slice ya yl yc) bl l zM b y hb (fun i _=>hbz i) (by rw[hO];exact hy) (by decide) (fun i _=>hyz i) h5 ⟨a0,c0,rfl,hx⟩ h7 (by omega) (by decide) (zM_64 bl) (z_p5 _ (by omega)) z_gz (z_ez _ (by omega) _ (by omega)) (z_ez2 _ (by omega))).mono ?_
    rintro e w' ⟨hI,hb⟩
    refine⟨?_,hb⟩
    rw[h0]
    rcases hI with ⟨_,d,rfl,hd⟩|⟨_,rfl⟩
    ·obtain⟨va,vc,rfl⟩:=hd.shape
     exact⟨_,_,_,_,rfl,goE_refl 0,.inl rfl⟩
    ·exact⟨_,_,_,_,rfl,goE_six,.inr rfl⟩
   ·rw[if_pos ⟨h0,.inr hly⟩]
    obtain⟨k,_,hk,h3,_⟩:=mate_ok h h0
    rw[h0] at hd
    refine(sextend_errM w n m sa sl sc a0 c0 xs hx ba bl bc ya yl yc 1 (by decide) hd (len_good hb9 hln) (n - xs.length) (IntWalk.i64_in _ (by omega)) (len_bad hy9 hly)).mono ?_
    rintro e w' ⟨rfl,hb⟩
    exact⟨⟨_,_,_,_,rfl,goE_refl _,.inr rfl⟩,hb⟩
  ·rw[if_pos ⟨h0,.inl hln⟩]
   rw[h0] at hd
   refine(sextend_errL w n m sa sl sc a0 c0 xs hx ba bl bc ya yl yc 1 (by decide) hd (len_bad hb9 hln)).mono ?_
   rintro e w' ⟨rfl,hb⟩
   exact⟨⟨_,_,_,_,rfl,goE_refl _,.inr rfl⟩,hb⟩
 ·rw[if_neg (fun g=>h0 g.1)]
  refine(sextend_errD w n m sa sl sc a0 c0 xs hx ba bl bc ya yl yc _ h0 hd).mono ?_
  rintro e w' ⟨rfl,hb⟩
  exact⟨⟨_,_,_,_,rfl,goE_refl _,.inr rfl⟩,hb⟩
end
end Gus
end
section
namespace Gus
open Go Go.RowKit Go.Proofs
theorem info_ents:(Tryz.prog.info? 96).map (fun i=>(i.zero,i.size,i.bytes))=some (some (.slice none 0 0),1,24):=by kernel_rfl
def NilRows (w:World) (a:Option Addr) (K:Nat):Prop:=∀ j,j<K→∃ b off,a=some ⟨b,off,none⟩∧b<w.heap.size∧w.cell? ⟨b,off+j,none⟩=some (.slice none 0 0)
theorem NilRows.call {w w':World} {a:Option Addr} {K:Nat} (h:NilRows w a K) (hb:Below w.heap.size w w'):NilRows w' a K:=fun j hj=>by
 obtain⟨b,off,h1,h2,h3⟩:=h j hj
 exact⟨b,off,h1,Nat.lt_of_lt_of_le h2 hb.size,by rw[hb.cell (p:=⟨b,off+j,none⟩) h2];exact h3⟩
theorem nil_rows {w:World} {lo:Nat} {T:TypeId} {v:Value} {K:Nat} (h:w.ownsRow lo T 1 v K (List.replicate K (.slice none 0 0))):∃ a c,v=.slice a K c∧NilRows w a K:=by
 rcases h.2 with ⟨rfl,hn⟩|⟨g,c,cur,hv,_,hg,_⟩
 ·subst hn
  exact⟨none,0,rfl,fun j hj=>absurd hj (Nat.not_lt_zero _)⟩
 ·refine⟨_,c,hv,fun j hj=>?_⟩
  have hcell:=fun j u hj=>h.cells (g:=g) (by rw[hv];rfl) j u hj
  have hlt:=(Array.getElem?_eq_some_iff.1 hg).1
  have h0:=hcell j (.slice none 0 0) (by rw[List.getElem?_replicate,if_pos hj])
  rw[Addr.add_lit] at h0
  exact⟨g,0,rfl,hlt,h0⟩
theorem NilRows.g {w:World} {a:Option Addr} {K:Nat} (h:NilRows w a K) (n m:Int) (c:Nat):SpG w (.agg #[.int .i64 n,.int .i64 m,.slice a K c]) n m (List.replicate K []):=by
 refine⟨a,c,by rw[List.length_replicate],fun i hi=>?_⟩
 rw[List.length_replicate] at hi
 obtain⟨b,off,h1,h2,h3⟩:=h i hi
 refine⟨b,off,_,h1,h2,h3, ?_⟩
 rw[List.getD_eq_getElem?_getD,List.getElem?_replicate,if_pos hi]
 exact⟨none,0,rfl,fun k hk=>absurd hk (Nat.not_lt_zero _)⟩
theorem NilRows.m {w:World} {a:Option Addr} {K:Nat} (h:NilRows w a K) (M c:Nat):SpM w (.agg #[.int .i64 (K:Nat),.int .i64 (M:Nat),.slice a K c]) K M zM:=by
 refine⟨a,c,by rw[mrows_length],fun i hi=>?_⟩
 rw[mrows_length] at hi
 obtain⟨b,off,h1,h2,h3⟩:=h i hi
 refine⟨b,off,_,h1,h2,h3, ?_⟩
 rw[mrows_getD _ _ hi]
 have e:rowOf (zM i) M=[]:=by
  unfold rowOf
  rw[List.filter_eq_nil_iff.2 (fun k _=>by simp[zM])];rfl
 rw[e]
 exact⟨none,0,rfl,fun k hk=>absurd hk (Nat.not_lt_zero _)⟩
theorem check_nil {n m:Int} {K:Nat} (hn:n≤12∨2048<n) (hK:n≤12→K=n.toNat):checkS n m (List.replicate K [])=sidesE n m:=by
 unfold checkS
 by_cases h:sidesE n m=0
 ·rw[if_neg (fun g=>g h)]
  have h2:0≤n∧n≤12:=by
   unfold sidesE at h
   by_cases h1:n<0∨m<0
   ·rw[if_pos h1] at h;exact absurd h (by decide)
   ·rw[if_neg h1] at h
    by_cases h3:2048<n∨2048<m
    ·rw[if_pos h3] at h;exact absurd h (by decide)
    ·omega
  rw[if_neg (by rw[List.length_replicate,hK h2.2];omega),h]
  refine if_pos (List.all_eq_true.2 fun x hx=>?_)
  rw[(List.mem_replicate.1 hx).2];rfl
 ·rw[if_pos h]
theorem sq_check {n m:Int}:sqE n m=if sidesE n m=0∧n≠m then 1 else sidesE n m:=by
 unfold sqE sidesE
 by_cases h1:n<0∨m<0
 ·simp only[if_pos h1];simp
 ·simp only[if_neg h1]
  by_cases h2:2048<n∨2048<m
  ·simp only[if_pos h2];simp
  ·simp only[if_neg h2]
   by_cases h3:n=m
   ·simp[h3]
   ·simp[h3]
theorem mate_of {w:World} {a:Option Addr} {K c:Nat} {n m:Int} (h:NilRows w a K) (hn:n≤12∨2048<n) (hm:m≤12∨2048<m) (hK:n≤12→K=n.toNat) (hK2:K≤12):MatE w (.agg #[.int .i64 n,.int .i64 m,.slice a K c]) n m:=by
 have hc:=check_nil (m:=m) hn hK
 unfold MatE
 by_cases hs:sidesE n m=0
 ·have h2:0≤n∧n≤12∧0≤m∧m≤12:=by
   unfold sidesE at hs
   by_cases h1:n<0∨m<0
   ·rw[if_pos h1] at hs;exact absurd hs (by decide)
   ·rw[if_neg h1] at hs
    by_cases h3:2048<n∨2048<m
    ·rw[if_pos h3] at hs;exact absurd hs (by decide)
    ·omega
  obtain⟨M,rfl⟩:=Int.eq_ofNat_of_zero_le h2.2.2.1
  have hKn:n=(K:Nat):=by rw[hK h2.2.1];omega
  subst hKn
  have hM:=h.m M c
  by_cases hkm:(K:Int)=(M:Int)
  ·have hkm':K=M:=by omega
   subst hkm'
   exact .inr ⟨by rw[sq_check,hs];simp,K,rfl,hK2,rfl,hM⟩
  ·have e:sqE (K:Nat) (M:Nat)=1:=by rw[sq_check,hs,if_pos ⟨rfl,hkm⟩]
   refine .inl ⟨by rw[e];decide,fun xs=>?_⟩
   rw[e]
   exact denE_sq hM (by omega) (by omega) (by omega) xs
 ·have e:sqE n m=sidesE n m:=by rw[sq_check,if_neg (fun g=>hs g.1)]
  refine .inl ⟨by rw[e];exact hs,fun xs=>?_⟩
  rw[e]
  refine denE_bad ⟨⟨n,m,a,K,c,rfl⟩,fun W hW=>?_,hs⟩ xs
  have:=scheck_any W _ n m (List.replicate K []) ((h.call hW).g n m c) (by rw[List.length_replicate];omega) (fun i=>by
   rw[List.getD_eq_getElem?_getD,List.getElem?_replicate]
   split <;> simp)
  rw[hc] at this
  exact this
end Gus
end
section
namespace Gus
open Go Go.RowKit Go.Proofs
def icz (l:List Int):List Value:=l.map fun x=>.int .i64 x
set_option maxRecDepth 100000 in
theorem wpList_append_icz {ops:Array Oper} {rest:List Oper} {o:Oper} {a:Act} {Q:Exit→Act→World→Prop} {w:World} (hwt:Region.wanted o (yielded ops a.tmps)=true) (s x:Operand) (t:TypeId)
  (ho:o.op=.call { callee:=.builtin .append,args:=#[s,x],argTypes:=#[t,t] })
  (base:Nat) (i:TypeInfo) (ht:Tryz.prog.underlying t=some (.slice 3)) (hi:Tryz.prog.info? 3=some i) (hz:i.zero=some (.int .i64 0)) (hsize:i.size=1) (hby:i.bytes=8)
  (v:Value) (n:Nat) (xs:List Value) (hs:a.eval s=v) (hown:w.ownsRow base 3 1 v n xs)
  (sa:Option Addr) (m c:Nat) (l:List Int) (hx:a.eval x=.slice sa m c) (hl:m=l.length) (hd:IntsAt w sa l) (hm:n+m≤2199023255552) (hbase:base≤w.heap.size)
  (h:∀ v' w',w'.ownsRow base 3 1 v' (n+m) (xs ++ icz l)→w.grownBy w' v.ownBlock→wpList Tryz.prog ops Q rest (a.put o.dst v') w'):wpList Tryz.prog ops Q (o :: rest) a w:=by
 have hlen:(icz l).length=m*1:=by simp[icz,hl]
 refine wpList_step fun K hK'=>?_
 rw[if_pos hwt]
 cases sa with
 | some ad=>
  refine wp_append_own w s x t ho base 3 i (.int .i64 0) 1 8 ht hi hz hsize hby rfl (by decide) v n xs hs hown ad m c (icz l) hx hlen ?_ ?_ (by simp only[maxLen];omega) (by omega) hbase (fun v' w' h1 h2 _=>hK' _ _ (h v' w' h1 h2))
  ·intro j u hj
   have hlt:j<l.length:=by
    have:=(List.getElem?_eq_some_iff.1 hj).1
    simpa[icz] using this
   obtain⟨b',off',he,_,hc⟩:=hd j hlt
   simp only[Option.some.injEq] at he
   rw[he,Addr.add_lit,hc,←hj]
   simp[icz,List.getD_eq_getElem?_getD,List.getElem?_eq_getElem hlt]
  ·intro u hu
   simp only[icz,List.mem_map] at hu
   obtain⟨d,_,rfl⟩:=hu;rfl
 | none=>
  have hm0:m=0:=by
   rw[hl]
   cases l with
   | nil=>rfl
   | cons d l=>obtain⟨b',off',he,_⟩:=hd 0 (by simp);cases he
  subst hm0
  have hf:=fun W=>run_firstCells_none (P:=Tryz.prog) (w:=W) 1 0 0 c
  have hap:∀ W,(Builtin.append_ #[t,t] o.type #[v,.slice none 0 c]).run Tryz.prog W=.ok v W:=fun W=>by
   rcases hown.2 with ⟨h1,h2⟩|⟨g,cap,cur,h1,_,_,h2,_⟩
   ·subst h1
    simp[Builtin.append_,run_underlying ht,Go.sizeOf,typeInfo,hi,hsize,Builtin.lenOf,hf]
   ·subst h1
    simp[Builtin.append_,run_underlying ht,Go.sizeOf,typeInfo,hi,hsize,Builtin.lenOf,hf,storeCells,h2]
  unfold Oper.wp execOp
  simp only[ho,resolve,invoke,builtin,Sem.run_bind,Sem.run_pure,Result.andThen_ok,List.map_toArray,List.map_cons,List.map_nil,hs,hx,hap]
  refine hK' _ _ (h _ _ ?_ ⟨rfl,rfl,rfl,Nat.le_refl _,fun _ _ _=>rfl⟩)
  have hl0:l=[]:=List.length_eq_zero_iff.1 hl.symm
  rw[hl0]
  show w.ownsRow base 3 1 _ (n+0) (xs ++ [])
  rw[List.append_nil];exact hown
theorem own_icz {w:World} {lo n:Nat} {v:Value} {l:List Int} (hn:n=l.length) (h:w.ownsRow lo 3 1 v n (icz l)):∃ a c,v=.slice a l.length c∧IntsAt w a l:=by
 subst hn
 rcases h.2 with ⟨rfl,hn⟩|⟨g,c,cur,hv,_,hg,_⟩
 ·refine⟨none,0,by rw[hn],fun i hi=>?_⟩
  omega
 ·refine⟨_,c,hv,fun i hi=>?_⟩
  have hcell:=fun j u hj=>h.cells (g:=g) (by rw[hv];rfl) j u hj
  have hlt:=(Array.getElem?_eq_some_iff.1 hg).1
  have h0:=hcell i (.int .i64 (l.getD i 0)) (by
   unfold icz
   rw[List.getElem?_map,List.getElem?_eq_getElem hi,List.getD_eq_getElem?_getD,List.getElem?_eq_getElem hi];rfl)
  rw[Addr.add_lit] at h0
  exact⟨g,0,rfl,hlt,h0⟩
theorem own_slice {w:World} {lo s n:Nat} {T:TypeId} {v:Value} {xs:List Value} (h:w.ownsRow lo T s v n xs):∃ a c,v=.slice a n c:=by
 rcases h.2 with ⟨rfl,hn⟩|⟨g,c,_,hv,_⟩
 ·exact⟨none,0,by rw[hn]⟩
 ·exact⟨_,c,hv⟩
theorem join_icz {w:World} {lo X Y:Nat} {v:Value} {xs ys:List Int} (hX:X=xs.length) (hY:Y=ys.length) (h:w.ownsRow lo 3 1 v (X+Y) (icz xs ++ icz ys)):∃ a c,v=.slice a (xs ++ ys).length c∧IntsAt w a (xs ++ ys):=by
 have e:(icz xs ++ icz ys)=icz (xs ++ ys):=by simp[icz]
 rw[e] at h
 exact own_icz (by rw[hX,hY,List.length_append]) h
theorem dec_or {E:Int} {P:Prop} (h:E=0∨P):(E == 0)=true∨((E == 0)=false∧P):=by
 by_cases h0:E=0
 ·exact .inl (by simpa using h0)
 ·exact .inr ⟨by simpa using h0,h.resolve_left h0⟩
theorem gs_pairZ {w:World} {b ca cb:Nat} {a a':Option Addr} {l m:List Int} {T:TypeId} (hB:Bx w b T [.slice a l.length ca,.slice a' m.length cb]) (hx:IntsAt w a l) (hy:IntsAt w a' m):GsAt w (.slice (some ⟨b,0,none⟩) 2 2) [l,m]:=by
 refine⟨_,_,rfl,fun i hi=>?_⟩
 have h2:i=0∨i=1:=by simp at hi;omega
 rcases h2 with rfl | rfl
 ·exact⟨b,0,a,ca,rfl,hB.lt,hB.c0,hx⟩
 ·exact⟨b,0,a',cb,rfl,hB.lt,hB.c1,hy⟩
end Gus
end
section
namespace Gus
open Go Go.RowKit Go.Proofs
theorem oper_monoQ {P:Program} {Q Q':Exit→Act→World→Prop} {o:Oper} {a:Act} {w:World} {K K':Act→World→Prop} (h:∀ a w,K a w→K' a w) (hq:∀ e a w,e≠.normal→Q e a w→Q' e a w)
  (hh:o.wp P a w K Q):o.wp P a w K' Q':=by
 unfold Oper.wp at *
 generalize (execOp a.eval o).run P w=r at *
 cases r with
 | ok n w'=>
  cases n <;> simp only[Oper.upon] at hh ⊢ <;>
   first
    | exact h _ _ hh
    | exact hq _ _ _ (by simp) hh
    | exact Calls.mono hh (fun e w'' he=>by cases e <;> first | exact h _ _ he | exact hq _ _ _ (by simp) he | exact he.imp fun _ h=>h.imp fun _ h=>hq _ _ _ (by simp) h)
    | exact Rows.mono hh (fun _ _ he=>h _ _ he)
 | halt x w'=>cases x <;> simp only[Oper.upon] at hh ⊢ <;> exact hq _ _ _ (by simp) hh
theorem wpList_cutR {P:Program} {ops:Array Oper} {Q:Exit→Act→World→Prop} (R:Act→World→Prop) (l2:List Oper) (h2:∀ a w,R a w→wpList P ops Q l2 a w):∀ (l1:List Oper) (a:Act) (w:World),wpList P ops (fun e a w=>e=.normal∧R a w) l1 a w→wpList P ops Q (l1 ++ l2) a w
 | [],a,w,h=>h2 a w h.2
 | o :: l1,a,w,h=>by
  rw[List.cons_append]
  unfold wpList at h ⊢
  by_cases hw:Region.wanted o (yielded ops a.tmps)=true
  ·rw[if_pos hw] at h ⊢
   rcases h with h |⟨_,a9,w9,h,_⟩
   ·exact .inl (oper_monoQ (fun a w h=>wpList_cutR R l2 h2 l1 a w h) (fun e a w hn h=>absurd h.1 hn) h)
   ·exact absurd h (by simp)
  ·rw[if_neg hw] at h ⊢
   exact wpList_cutR R l2 h2 l1 _ _ h
theorem wpList_conj8 {P:Program} {ops:Array Oper} {Q:Exit→Act→World→Prop} {o0 o1 o2 o3 o4 o5 o6 o7:Oper} {l:List Oper} {a:Act} {w:World} (d0 d1 d2 d3 d4 d5 d6 d7:Nat)
  (h1:wpList P ops (fun e a' w'=>e=.normal∧(w'=w∧∃ v0 v1 v2 v3 v4 v5 v6,a'=(((((((a.put (some (d0)) v0).put (some (d1)) v1).put (some (d2)) v2).put (some (d3)) v3).put (some (d4)) v4).put (some (d5)) v5).put (some (d6)) v6).put (some d7) (.bool true))) [o0,o1,o2,o3,o4,o5,o6,o7] a w)
  (h2:∀ v0 v1 v2 v3 v4 v5 v6 A,A=(((((((a.put (some (d0)) v0).put (some (d1)) v1).put (some (d2)) v2).put (some (d3)) v3).put (some (d4)) v4).put (some (d5)) v5).put (some (d6)) v6).put (some d7) (.bool true)→wpList P ops Q l A w):wpList P ops Q (o0 :: o1 :: o2 :: o3 :: o4 :: o5 :: o6 :: o7 :: l) a w:=by
 refine wpList_cutR _ l ?_ [o0,o1,o2,o3,o4,o5,o6,o7] _ _ h1
 rintro a' w' ⟨rfl,v0,v1,v2,v3,v4,v5,v6,rfl⟩
 exact h2 v0 v1 v2 v3 v4 v5 v6 _ rfl
theorem wpList_conj15 {P:Program} {ops:Array Oper} {Q:Exit→Act→World→Prop} {o0 o1 o2 o3 o4 o5 o6 o7 o8 o9 o10 o11 o12 o13 o14:Oper} {l:List Oper} {a:Act} {w:World} (d0 d1 d2 d3 d4 d5 d6 d7 d8 d9 d10 d11 d12 d13 d14:Nat)
  (h1:wpList P ops (fun e a' w'=>e=.normal∧(w'=w∧∃ v0 v1 v2 v3 v4 v5 v6 v7 v8 v9 v10 v11 v12 v13,a'=((((((((((((((a.put (some (d0)) v0).put (some (d1)) v1).put (some (d2)) v2).put (some (d3)) v3).put (some (d4)) v4).put (some (d5)) v5).put (some (d6)) v6).put (some (d7)) v7).put (some (d8)) v8).put (some (d9)) v9).put (some (d10)) v10).put (some (d11)) v11).put (some (d12)) v12).put (some (d13)) v13).put (some d14) (.bool true))) [o0,o1,o2,o3,o4,o5,o6,o7,o8,o9,o10,o11,o12,o13,o14] a w)
  (h2:∀ v0 v1 v2 v3 v4 v5 v6 v7 v8 v9 v10 v11 v12 v13 A,A=((((((((((((((a.put (some (d0)) v0).put (some (d1)) v1).put (some (d2)) v2).put (some (d3)) v3).put (some (d4)) v4).put (some (d5)) v5).put (some (d6)) v6).put (some (d7)) v7).put (some (d8)) v8).put (some (d9)) v9).put (some (d10)) v10).put (some (d11)) v11).put (some (d12)) v12).put (some (d13)) v13).put (some d14) (.bool true)→wpList P ops Q l A w):wpList P ops Q (o0 :: o1 :: o2 :: o3 :: o4 :: o5 :: o6 :: o7 :: o8 :: o9 :: o10 :: o11 :: o12 :: o13 :: o14 :: l) a w:=by
 refine wpList_cutR _ l ?_ [o0,o1,o2,o3,o4,o5,o6,o7,o8,o9,o10,o11,o12,o13,o14] _ _ h1
 rintro a' w' ⟨rfl,v0,v1,v2,v3,v4,v5,v6,v7,v8,v9,v10,v11,v12,v13,rfl⟩
 exact h2 v0 v1 v2 v3 v4 v5 v6 v7 v8 v9 v10 v11 v12 v13 _ rfl
theorem wpList_conj13 {P:Program} {ops:Array Oper} {Q:Exit→Act→World→Prop} {o0 o1 o2 o3 o4 o5 o6 o7 o8 o9 o10 o11 o12:Oper} {l:List Oper} {a:Act} {w:World} (d0 d1 d2 d3 d4 d5 d6 d7 d8 d9 d10 d11 d12:Nat)
  (h1:wpList P ops (fun e a' w'=>e=.normal∧(w'=w∧∃ v0 v1 v2 v3 v4 v5 v6 v7 v8 v9 v10 v11,a'=((((((((((((a.put (some (d0)) v0).put (some (d1)) v1).put (some (d2)) v2).put (some (d3)) v3).put (some (d4)) v4).put (some (d5)) v5).put (some (d6)) v6).put (some (d7)) v7).put (some (d8)) v8).put (some (d9)) v9).put (some (d10)) v10).put (some (d11)) v11).put (some d12) (.bool true))) [o0,o1,o2,o3,o4,o5,o6,o7,o8,o9,o10,o11,o12] a w)
  (h2:∀ v0 v1 v2 v3 v4 v5 v6 v7 v8 v9 v10 v11 A,A=((((((((((((a.put (some (d0)) v0).put (some (d1)) v1).put (some (d2)) v2).put (some (d3)) v3).put (some (d4)) v4).put (some (d5)) v5).put (some (d6)) v6).put (some (d7)) v7).put (some (d8)) v8).put (some (d9)) v9).put (some (d10)) v10).put (some (d11)) v11).put (some d12) (.bool true)→wpList P ops Q l A w):wpList P ops Q (o0 :: o1 :: o2 :: o3 :: o4 :: o5 :: o6 :: o7 :: o8 :: o9 :: o10 :: o11 :: o12 :: l) a w:=by
 refine wpList_cutR _ l ?_ [o0,o1,o2,o3,o4,o5,o6,o7,o8,o9,o10,o11,o12] _ _ h1
 rintro a' w' ⟨rfl,v0,v1,v2,v3,v4,v5,v6,v7,v8,v9,v10,v11,rfl⟩
 exact h2 v0 v1 v2 v3 v4 v5 v6 v7 v8 v9 v10 v11 _ rfl
theorem wpList_conj9 {P:Program} {ops:Array Oper} {Q:Exit→Act→World→Prop} {o0 o1 o2 o3 o4 o5 o6 o7 o8:Oper} {l:List Oper} {a:Act} {w:World} (d0 d1 d2 d3 d4 d5 d6 d7 d8:Nat)
  (h1:wpList P ops (fun e a' w'=>e=.normal∧(w'=w∧∃ v0 v1 v2 v3 v4 v5 v6 v7,a'=((((((((a.put (some (d0)) v0).put (some (d1)) v1).put (some (d2)) v2).put (some (d3)) v3).put (some (d4)) v4).put (some (d5)) v5).put (some (d6)) v6).put (some (d7)) v7).put (some d8) (.bool true))) [o0,o1,o2,o3,o4,o5,o6,o7,o8] a w)
  (h2:∀ v0 v1 v2 v3 v4 v5 v6 v7 A,A=((((((((a.put (some (d0)) v0).put (some (d1)) v1).put (some (d2)) v2).put (some (d3)) v3).put (some (d4)) v4).put (some (d5)) v5).put (some (d6)) v6).put (some (d7)) v7).put (some d8) (.bool true)→wpList P ops Q l A w):wpList P ops Q (o0 :: o1 :: o2 :: o3 :: o4 :: o5 :: o6 :: o7 :: o8 :: l) a w:=by
 refine wpList_cutR _ l ?_ [o0,o1,o2,o3,o4,o5,o6,o7,o8] _ _ h1
 rintro a' w' ⟨rfl,v0,v1,v2,v3,v4,v5,v6,v7,rfl⟩
 exact h2 v0 v1 v2 v3 v4 v5 v6 v7 _ rfl
end Gus
end
