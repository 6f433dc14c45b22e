/- Proved here: parts of the proof: KElc KEld KEle. Conditions: those that each theorem states. -/
import Derived.Test.YthblojaeoiemmaaGreatDoorKElmQ
section
namespace Gus
open Go Go.RowKit Go.Proofs
structure RwAt (w:World) (lo R m:Nat) (ra:Option Addr) (f:Nat→Nat) (M:Mx):Prop where
 rows:∀ i,i<R→∃ rb cs,ra=some ⟨rb,0,none⟩∧lo≤rb∧Bx w rb 31 cs∧cs[i]?=some (.slice (some ⟨f i,0,none⟩) m m)
 row:∀ i,i<R→VBx w (f i) (vl m (M i))
 inj:∀ i j,i<R→j<R→f i=f j→i=j
 low:∀ i,i<R→lo≤f i
theorem RwAt.keep {w w':World} {lo R m:Nat} {ra:Option Addr} {f:Nat→Nat} {M:Mx} (h:RwAt w lo R m ra f M) (hb:∀ b T cs,Bx w b T cs→T=31∨T=72→Bx w' b T cs):RwAt w' lo R m ra f M:=
 ⟨fun i hi=>by
  obtain⟨rb,cs,h1,h2,h3,h4⟩:=h.rows i hi
  exact⟨rb,cs,h1,h2,hb _ _ _ h3 (.inl rfl),h4⟩,fun i hi=>hb _ _ _ (h.row i hi) (.inr rfl),h.inj,h.low⟩
theorem RwAt.call {w w':World} {lo R m:Nat} {ra:Option Addr} {f:Nat→Nat} {M:Mx} (h:RwAt w lo R m ra f M) (hb:Below w.heap.size w w'):RwAt w' lo R m ra f M:=h.keep fun _ _ _ h1 _=>h1.call hb
theorem RwAt.congr {w:World} {lo R m:Nat} {ra:Option Addr} {f:Nat→Nat} {M M':Mx} (h:RwAt w lo R m ra f M) (he:∀ i c,i<R→c<m→M i c=M' i c):RwAt w lo R m ra f M':=
 ⟨h.rows,fun i hi=>by rw[←vl_congr (fun c hc=>he i c hi hc)];exact h.row i hi,h.inj,h.low⟩
theorem RwAt.other {w w':World} {lo R m b:Nat} {T:TypeId} {cs:List Value} {ra:Option Addr} {f:Nat→Nat} {M:Mx} (h:RwAt w lo R m ra f M) (hB:Bx w b T cs) (h1:T≠31) (h2:T≠72) (hg:w.grownBy w' (some b)):RwAt w' lo R m ra f M:=
 h.keep fun b' T' cs' h3 h4=>h3.grown hg (fun e=>by
  cases e
  exact hB.ne_type h3 (by rcases h4 with rfl | rfl;exact h1;exact h2) rfl)
theorem RwAt.set {w w':World} {lo R m i:Nat} {ra:Option Addr} {f:Nat→Nat} {M M':Mx} (h:RwAt w lo R m ra f M) (hi:i<R) (hg:w.grownBy w' (some (f i))) (hr:VBx w' (f i) (vl m (M' i))) (he:∀ j c,j<R→j≠i→c<m→M' j c=M j c):RwAt w' lo R m ra f M':=
 ⟨fun j hj=>by
  obtain⟨rb,cs,h1,h2,h3,h4⟩:=h.rows j hj
  exact⟨rb,cs,h1,h2,h3.grown hg (fun e=>by
   injection e with e
   exact h3.ne_type (h.row i hi) (by decide) e),h4⟩,
 fun j hj=>by
  by_cases hji:j=i
  ·subst hji;exact hr
  ·rw[vl_congr (fun c hc=>he j c hj hji hc)]
   exact(h.row j hj).grown hg (fun e=>by
    injection e with e
    exact hji (h.inj j i hj hi e)),h.inj,h.low⟩
structure ElAt (w:World) (lo p R m cols:Nat) (ra:Option Addr) (rc:Nat) (pv:Value) (f:Nat→Nat) (s:El):Prop where
 box:Bx w p 136 (.slice ra R rc :: .int .i64 cols :: pv :: fcs s.det)
 plo:lo≤p
 rcap:R≤rc
 rw:RwAt w lo R m ra f s.M
 piv:w.ownsRow lo 3 1 pv s.piv.length (s.piv.map fun k=>.int .i64 (k:Nat))
theorem ElAt.call {w w':World} {lo p R m cols rc:Nat} {ra:Option Addr} {pv:Value} {f:Nat→Nat} {s:El} (h:ElAt w lo p R m cols ra rc pv f s) (hb:Below w.heap.size w w'):ElAt w' lo p R m cols ra rc pv f s:=
 ⟨h.box.call hb,h.plo,h.rcap,h.rw.call hb,ownsRow_bel h.piv hb⟩
theorem ElAt.set {w w':World} {lo p R m cols rc i:Nat} {ra:Option Addr} {pv:Value} {f:Nat→Nat} {s:El} {M':Mx} (h:ElAt w lo p R m cols ra rc pv f s) (hi:i<R) (hg:w.grownBy w' (some (f i))) (hr:VBx w' (f i) (vl m (M' i))) (he:∀ j c,j<R→j≠i→c<m→M' j c=s.M j c):ElAt w' lo p R m cols ra rc pv f ⟨M',s.piv,s.det⟩:=
 ⟨h.box.grown hg (fun e=>by
  injection e with e
  exact h.box.ne_type (h.rw.row i hi) (by decide) e),h.plo,h.rcap,h.rw.set hi hg hr he,ownsRow_grown h.piv (h.rw.row i hi) (by decide) hg⟩
theorem ElAt.congr {w:World} {lo p R m cols rc:Nat} {ra:Option Addr} {pv:Value} {f:Nat→Nat} {s:El} {M':Mx} (h:ElAt w lo p R m cols ra rc pv f s) (he:∀ i c,i<R→c<m→s.M i c=M' i c):ElAt w lo p R m cols ra rc pv f ⟨M',s.piv,s.det⟩:=⟨h.box,h.plo,h.rcap,h.rw.congr he,h.piv⟩
theorem ElAt.setDet {w:World} {lo p R m cols rc:Nat} {ra:Option Addr} {pv:Value} {f:Nat→Nat} {s:El} {q:Rat} {A1 A4:Int} {A2 A5:ByteArray} {A3:Bool} (h:ElAt w lo p R m cols ra rc pv f s) (hq:fcs q=[.int .u64 A1,.string A2,.bool A3,.int .u64 A4,.string A5]) :
  ElAt (((((w.setCell ⟨p,3,none⟩ (.int .u64 A1)).setCell ⟨p,4,none⟩ (.string A2)).setCell ⟨p,5,none⟩ (.bool A3)).setCell ⟨p,6,none⟩ (.int .u64 A4)).setCell ⟨p,7,none⟩ (.string A5)) lo p R m cols ra rc pv f ⟨s.M,s.piv,q⟩ ∧
  w.grownBy (((((w.setCell ⟨p,3,none⟩ (.int .u64 A1)).setCell ⟨p,4,none⟩ (.string A2)).setCell ⟨p,5,none⟩ (.bool A3)).setCell ⟨p,6,none⟩ (.int .u64 A4)).setCell ⟨p,7,none⟩ (.string A5)) (some p):=by
 have hg:w.grownBy (((((w.setCell ⟨p,3,none⟩ (.int .u64 A1)).setCell ⟨p,4,none⟩ (.string A2)).setCell ⟨p,5,none⟩ (.bool A3)).setCell ⟨p,6,none⟩ (.int .u64 A4)).setCell ⟨p,7,none⟩ (.string A5)) (some p):=
  ((((gr_cell w ⟨p,3,none⟩ _).trans (gr_cell _ ⟨p,4,none⟩ _)).trans (gr_cell _ ⟨p,5,none⟩ _)).trans (gr_cell _ ⟨p,6,none⟩ _)).trans (gr_cell _ ⟨p,7,none⟩ _)
 refine⟨⟨?_,h.plo,h.rcap,h.rw.other h.box (by decide) (by decide) hg,ownsRow_grown h.piv h.box (by decide) hg⟩,hg⟩
 rw[hq]
 exact((((h.box.set 3 (.int .u64 A1)).set 4 (.string A2)).set 5 (.bool A3)).set 6 (.int .u64 A4)).set 7 (.string A5)
def clrTo (M:Mx) (t k j:Nat):Mx:=fun r c=>if r=t then M t c / M t k else if r<j then M r c - M r k*(M t c / M t k) else M r c
theorem clrTo_full (M:Mx) (t k R:Nat) {r c:Nat} (hr:r<R):clrTo M t k R r c=rowClear M t k r c:=by
 unfold clrTo rowClear
 by_cases h:r=t
 ·rw[if_pos h,if_pos h]
 ·rw[if_neg h,if_neg h,if_pos hr]
theorem clrTo_top (M:Mx) (t k r c:Nat):clrTo M t k t r c=clrTo M t k (t+1) r c:=by
 unfold clrTo
 by_cases h:r=t
 ·rw[if_pos h,if_pos h]
 ·rw[if_neg h,if_neg h]
  by_cases h2:r<t
  ·rw[if_pos h2,if_pos (by omega)]
  ·rw[if_neg h2,if_neg (by omega)]
theorem clrTo_skip (M:Mx) (t k j:Nat) (h0:M j k=0) (r c:Nat):clrTo M t k j r c=clrTo M t k (j+1) r c:=by
 unfold clrTo
 by_cases h:r=t
 ·rw[if_pos h,if_pos h]
 ·rw[if_neg h,if_neg h]
  by_cases h2:r<j
  ·rw[if_pos h2,if_pos (by omega)]
  ·rw[if_neg h2]
   by_cases h3:r=j
   ·subst h3;rw[if_pos (by omega),h0,Rat.zero_mul];grind
   ·rw[if_neg (by omega)]
theorem clrTo_other (M:Mx) (t k j:Nat) {r:Nat} (h:r≠j) (c:Nat):clrTo M t k (j+1) r c=clrTo M t k j r c:=by
 unfold clrTo
 by_cases h1:r=t
 ·rw[if_pos h1,if_pos h1]
 ·rw[if_neg h1,if_neg h1]
  by_cases h2:r<j
  ·rw[if_pos h2,if_pos (by omega)]
  ·rw[if_neg h2,if_neg (by omega)]
theorem clrTo_now (M:Mx) (t k j c:Nat) (h:j≠t):clrTo M t k j j c=M j c:=by
 unfold clrTo;rw[if_neg h,if_neg (Nat.lt_irrefl _)]
theorem clrTo_next (M:Mx) (t k j c:Nat) (h:j≠t):clrTo M t k (j+1) j c=M j c - M j k*(M t c / M t k):=by
 unfold clrTo;rw[if_neg h,if_pos (by omega)]
theorem clrTo_t (M:Mx) (t k j c:Nat):clrTo M t k j t c=M t c / M t k:=by
 unfold clrTo;rw[if_pos rfl]
theorem clrTo_zero (M:Mx) (t k:Nat) {r:Nat} (h:r≠t) (c:Nat):clrTo M t k 0 r c=M r c:=by
 unfold clrTo;rw[if_neg h,if_neg (Nat.not_lt_zero _)]
end Gus
end
section
namespace Gus
open Go Go.RowKit Go.Proofs
set_option maxRecDepth 100000 in
set_option maxHeartbeats 16000000 in
theorem clear_any {z zd:Nat} (w:World) (lo p R m cols rc t k:Nat) (ra:Option Addr) (pv:Value) (f:Nat→Nat) (s:El) (el:ElAt w lo p R m cols ra rc pv f s) (ht:t<R) (hk:k<m) (hne:s.M t k≠0) (hR:R≤4096) (hm:m≤4096) (hlo:lo≤w.heap.size)
  (hz:∀ i c,i<R→c<m→SzK z (s.M i c)) (hd:SzK zd s.det) (hcap:4*z+zd+2<17592186044416) :
  Calls Tryz.prog 112 #[.pointer (some ⟨p,0,none⟩),.int .i64 (t:Nat),.int .i64 (k:Nat)] w fun e w'=>e=.returned (.tuple #[])∧In lo w w'∧ElAt w' lo p R m cols ra rc pv f ⟨rowClear s.M t k,s.piv,s.det*s.M t k⟩:=by
 obtain⟨rb,cs,rfl,hrb,hBr,hct⟩:=el.rw.rows t ht
 have HZ:=Lib.hid hz
 have tR:(t:Int)<R:=by omega
 have t0:(0:Int)≤t:=by omega
 have km:(k:Int)<m:=by omega
 have k0:(0:Int)≤k:=by omega
 have hin:In lo w w:=⟨Below.refl _ _,hlo⟩
 have HF:=el.rw
 obtain⟨q,hq⟩:∃ q,q=s.M t k:=⟨_,rfl⟩
 obtain⟨d,hd9⟩:∃ d,d=s.det:=⟨_,rfl⟩
 have hsq:SzK z q:=by rw[hq];exact hz t k ht hk
 rw[←hd9] at hd
 have cm:=fmul_any d q hd hsq (by omega)
 obtain⟨e,he⟩:∃ e,e=d*q:=⟨_,rfl⟩
 rw[←he] at cm
 have hrow:=el.rw.row t ht
 obtain⟨A1,A2,A3,A4,A5,hA,hA'⟩:∃ A1 A2 A3 A4 A5,fracV q=.agg #[.int .u64 A1,.string A2,.bool A3,.int .u64 A4,.string A5]∧fcs q=[.int .u64 A1,.string A2,.bool A3,.int .u64 A4,.string A5]:=⟨_,_,_,_,_,rfl,rfl⟩
 obtain⟨c0,c1,c2,c3,c4⟩:=hrow.eltc hk (by rw[←hq];exact hA')
 obtain⟨D1,D2,D3,D4,D5,hD,hD'⟩:∃ A1 A2 A3 A4 A5,fracV d=.agg #[.int .u64 A1,.string A2,.bool A3,.int .u64 A4,.string A5]∧fcs d=[.int .u64 A1,.string A2,.bool A3,.int .u64 A4,.string A5]:=⟨_,_,_,_,_,rfl,rfl⟩
 obtain⟨P1,P2,P3,P4,P5,hP,hP'⟩:∃ A1 A2 A3 A4 A5,fracV e=.agg #[.int .u64 A1,.string A2,.bool A3,.int .u64 A4,.string A5]∧fcs e=[.int .u64 A1,.string A2,.bool A3,.int .u64 A4,.string A5]:=⟨_,_,_,_,_,rfl,rfl⟩
 rw[hD,hA,hP] at cm
 have hbox:=el.box
 rw[←hd9,hD'] at hbox
 have HQ:=Lib.hid hq
 have HD9:=Lib.hid hd9
 have HE:=Lib.hid he
 have HA:=Lib.hid hA'
 have HP:=Lib.hid hP'
 have HNE:=Lib.hid hne
 have HCT:=Lib.hid hct
 have hgw:f t<w.heap.size:=hrow.lt
 clear hq hd9 he hA hA' hD hD' hP hP' hne hz hct HF
 go_enter Tryz.func112,Tryz.ntmps112
 go_upto_region 1 with fail
 ((obtain⟨X,hXX⟩:∃ z,z=w.heap.size:=⟨_,rfl⟩);(have bV0:=((Bx.new_at w #[.pointer (some ⟨p,0,none⟩)] 130 (n:=X) (by simp[hXX])).alloc (.cells #[.int .i64 t] 3)));(have bV1:=(Bx.new_at (w.alloc (.cells #[.pointer (some ⟨p,0,none⟩)] 130)) #[.int .i64 t] 3 (n:=X+1) (by simp[hXX])));(have hV:=(((In.self w).alloc (.cells #[.pointer (some ⟨p,0,none⟩)] 130)).alloc (.cells #[.int .i64 t] 3)));(replace hBr:=((hBr.alloc (.cells #[.pointer (some ⟨p,0,none⟩)] 130)).alloc (.cells #[.int .i64 t] 3)));(replace hrow:=((hrow.alloc (.cells #[.pointer (some ⟨p,0,none⟩)] 130)).alloc (.cells #[.int .i64 t] 3)));(replace hbox:=((hbox.alloc (.cells #[.pointer (some ⟨p,0,none⟩)] 130)).alloc (.cells #[.int .i64 t] 3)));(replace el:=((el.call ((Below.refl _ _).alloc (Nat.le_refl _) (.cells #[.pointer (some ⟨p,0,none⟩)] 130))).call ((Below.refl _ _).alloc (Nat.le_refl _) (.cells #[.int .i64 t] 3))));(rw[←hXX] at hV ⊢);(have HX:=Lib.hid hXX);clear hXX;(generalize (w.alloc (.cells #[.pointer (some ⟨p,0,none⟩)] 130)).alloc (.cells #[.int .i64 t] 3)=V at *))
 rw[HX.out] at hV
 have hgX:f t<X:=by rw[HX.out];exact hgw
 replace hin:=hV.out hin hlo
 clear hV
 have bX:=bV0
 have bY:=bV1
 clear bV0 bV1
 clear c0 c1 c2 c3 c4
 have htc:V.cell? ⟨rb,t,none⟩=some (.slice (some ⟨f t,0,none⟩) m m):=(hBr.cell t).trans HCT.out
 obtain⟨c0,c1,c2,c3,c4⟩:=VBx.eltc hrow hk (by rw[←HQ.out];exact HA.out)
 have hrl:=hBr.lt
 have hfl:=hrow.lt
 (have x0:=bX.c0;have xl:=bX.lt)
 (have y0:=bY.c0;have yl:=bY.lt)
 (have b0:=hbox.c0;have b1:=hbox.c1;have b2:=hbox.c2;have b3:=hbox.c3;have b4:=hbox.c4;have b5:=hbox.c5;have b6:=hbox.c6;have b7:=hbox.c7;have bl:=hbox.lt)
 have h:=In.self V;have hc:=h.cell;have hf:=h.frozen;refine tfw 11 ?_;refine tset ?_;(repeat (first | refine tfs ?_))
 (try clear hc hf h);intro u w' h ha hdi;replace h:=tsz h.ins;replace ha:=tah ha;have hc:=h.cell;have hf:=h.frozen;clear hdi hc hf;rename World=>wf
 obtain⟨ha,Eb,hu,hEb,bEb⟩:=ha
 (try dsimp only)
 simp only[ha,hu]
 clear ha hu
 have hfE:f t<Eb:=Nat.lt_of_lt_of_le hfl hEb
 (have p0:=bEb.c0;have p1:=bEb.c1;have p2:=bEb.c2;have p3:=bEb.c3;have p4:=bEb.c4;(have pf0:=bEb.frozen 0);(have pf1:=bEb.frozen 1);(have pf2:=bEb.frozen 2);(have pf3:=bEb.frozen 3);(have pf4:=bEb.frozen 4);have pl:=bEb.lt;(have KS:=Lib.hid (((((bEb.set 0 (.int .u64 A1)).set 1 (.string A2)).set 2 (.bool A3)).set 3 (.int .u64 A4)).set 4 (.string A5)));(have KH:=Lib.hid (((((h.setCell (p:=⟨Eb,0,none⟩) (by first | exact hEb |(simp;omega)) (.int .u64 A1)).setCell (p:=⟨Eb,1,none⟩) (by first | exact hEb |(simp;omega)) (.string A2)).setCell (p:=⟨Eb,2,none⟩) (by first | exact hEb |(simp;omega)) (.bool A3)).setCell (p:=⟨Eb,3,none⟩) (by first | exact hEb |(simp;omega)) (.int .u64 A4)).setCell (p:=⟨Eb,4,none⟩) (by first | exact hEb |(simp;omega)) (.string A5)));clear h bEb;(go_upto_region 2 with fail);have hb:=KH.out.bel;have bEb:=KS.out;simp only[List.set] at bEb;clear htc c0 c1 c2 c3 c4 hrl hfl x0 xl y0 yl b0 b1 b2 b3 b4 b5 b6 b7 bl;replace hin:=hin.call hb;replace el:=el.call hb;replace hBr:=hBr.call hb;replace hrow:=hrow.call hb;replace hbox:=hbox.call hb;replace bX:=bX.call hb;replace bY:=bY.call hb;clear KS KH hb pl p0 p1 p2 p3 p4 pf0 pf1 pf2 pf3 pf4;(generalize ((((wf.setCell ⟨Eb,0,none⟩ (.int .u64 A1)).setCell ⟨Eb,1,none⟩ (.string A2)).setCell ⟨Eb,2,none⟩ (.bool A3)).setCell ⟨Eb,3,none⟩ (.int .u64 A4)).setCell ⟨Eb,4,none⟩ (.string A5)=W1 at *))
 (have x0:=bX.c0;have xl:=bX.lt)
 (have b0:=hbox.c0;have b1:=hbox.c1;have b2:=hbox.c2;have b3:=hbox.c3;have b4:=hbox.c4;have b5:=hbox.c5;have b6:=hbox.c6;have b7:=hbox.c7;have bl:=hbox.lt;(have bf0:=hbox.frozen 0);(have bf1:=hbox.frozen 1);(have bf2:=hbox.frozen 2);(have bf3:=hbox.frozen 3);(have bf4:=hbox.frozen 4);(have bf5:=hbox.frozen 5);(have bf6:=hbox.frozen 6);(have bf7:=hbox.frozen 7))
 (have g0:=bEb.c0;have g1:=bEb.c1;have g2:=bEb.c2;have g3:=bEb.c3;have g4:=bEb.c4;have gl:=bEb.lt)
 have h:=In.self W1;have hc:=h.cell;have hf:=h.frozen;refine tfw 9 ?_;refine tset ?_;(repeat (first | refine tfs ?_ |((first |((with_reducible refine flow_pure0 (v:=?_) ?_ ?_ ?_ ?_);rotate_left 1;exact trr;exact trf)|((with_reducible refine flow_pureg (v:=?_) (j:=?_) (b:=?_) ?_ ?_ ?_ ?_);rotate_left 3;exact trr;(focus (intro u w1 hw hd;replace hd:=thn hd;simp[yielded,hd];done))));(focus (intro u w1 hw hd;replace hd:=thn hd;have hc':=hw.cell;go_simp;go_at_call 39;((with_reducible refine(cm _).mono ?_));rintro e w'' ⟨rfl,hb⟩;refine⟨?_,hb⟩;exact rfl)))| fail))
 (try clear hc hf h);intro u w' h ha hdi;replace h:=tsz h.ins;replace ha:=tah ha;have hc:=h.cell;have hf:=h.frozen;have hb:=h.bel;clear hdi hc hf;clear x0 xl b0 b1 b2 b3 b4 b5 b6 b7 bl bf0 bf1 bf2 bf3 bf4 bf5 bf6 bf7 g0 g1 g2 g3 g4 gl cm;replace hin:=hin.call hb;replace el:=el.call hb;replace hBr:=hBr.call hb;replace hrow:=hrow.call hb;replace hbox:=hbox.call hb;replace bX:=bX.call hb;replace bY:=bY.call hb;replace bEb:=bEb.call hb;clear hb h;rename World=>W4
 (try dsimp only)
 simp only[ha]
 clear ha
 have hs:=el.setDet (q:=e) HP.out
 have K1:=Lib.hid hs.1
 have K2:=Lib.hid (hin.grown hs.2 el.plo)
 have K3:=Lib.hid (hBr.grown hs.2 (fun h=>hBr.ne_type hbox (by decide) (Option.some.inj h)))
 have K4:=Lib.hid (hrow.grown hs.2 (fun h=>hrow.ne_type hbox (by decide) (Option.some.inj h)))
 have K5:=Lib.hid (bX.grown hs.2 (fun h=>bX.ne_type hbox (by decide) (Option.some.inj h)))
 have K6:=Lib.hid (bY.grown hs.2 (fun h=>bY.ne_type hbox (by decide) (Option.some.inj h)))
 have K7:=Lib.hid (bEb.grown hs.2 (fun h=>bEb.ne_type hbox (by decide) (Option.some.inj h)))
 (have b0:=hbox.c0;have b1:=hbox.c1;have b2:=hbox.c2;have b3:=hbox.c3;have b4:=hbox.c4;have b5:=hbox.c5;have b6:=hbox.c6;have b7:=hbox.c7;have bl:=hbox.lt;(have bf0:=hbox.frozen 0);(have bf1:=hbox.frozen 1);(have bf2:=hbox.frozen 2);(have bf3:=hbox.frozen 3);(have bf4:=hbox.frozen 4);(have bf5:=hbox.frozen 5);(have bf6:=hbox.frozen 6);(have bf7:=hbox.frozen 7))
 clear hs el hin hBr hrow bX bY bEb hbox
 go_upto_region 3 with fail
 replace el:=K1.out
 replace hin:=K2.out
 have hBr:=K3.out
 have hrow:=K4.out
 have bX:=K5.out
 have bY:=K6.out
 have bEb:=K7.out
 clear K1 K2 K3 K4 K5 K6 K7 bf0 bf1 bf2 bf3 bf4 bf5 bf6 bf7 b0 b1 b2 b3 b4 b5 b6 b7 bl
 generalize ((((W4.setCell ⟨p,3,none⟩ (.int .u64 P1)).setCell ⟨p,4,none⟩ (.string P2)).setCell ⟨p,5,none⟩ (.bool P3)).setCell ⟨p,6,none⟩ (.int .u64 P4)).setCell ⟨p,7,none⟩ (.string P5)=W5 at *
 have hbox5:=el.box
 have hEne:¬ Eb=f t:=by omega
 have cE:=each_any' (x:=s.M t) (F:=fun c=>s.M t c / s.M t k) W5 p rb R rc t _ cs el.box hBr ht HCT.out hrow hm 155 #[.pointer (some ⟨Eb,0,none⟩)] (enters_of Tryz.func155 (by kernel_rfl) rfl) (fun c W hc hg=>by
  have hb:Bx W Eb 72 (fcs (s.M t k)):=by
   rw[←HQ.out,HA.out];exact bEb.grown hg (fun h=>hEne (Option.some.inj h))
  exact clr1_any W Eb c (s.M t c) (s.M t k) hb HNE.out (HZ.out t c ht hc) (by rw[←HQ.out];exact hsq) (by omega))
 (have x0:=bX.c0;have xl:=bX.lt)
 (have y0:=bY.c0;have yl:=bY.lt)
 go_wp2_with fail
 (refine cE.mono ?_)
 rintro e1 W6 ⟨rfl,hv6,hg6⟩
 have el6:=el.set (M':=clrTo s.M t k 0) ht hg6 (by rw[vl_congr (fun c _=>clrTo_t s.M t k 0 c)];exact hv6) (fun j c _ hj _=>clrTo_zero s.M t k hj c)
 have hin6:=hin.grown hg6 (el.rw.low t ht)
 have bX6:=bX.grown hg6 (fun h=>bX.ne_type hrow (by decide) (Option.some.inj h))
 have bY6:=bY.grown hg6 (fun h=>bY.ne_type hrow (by decide) (Option.some.inj h))
 clear cE hv6 hg6 el hin hBr hrow bX bY bEb hbox5 x0 xl y0 yl
 have hbox6:=el6.box
 (have x0:=bX6.c0;have xl:=bX6.lt)
 have b0:=hbox6.c0
 have bl:=hbox6.lt
 go_wp2_with fail
 clear b0 bl hbox6 x0 xl
 go_loopw [37] (fun v37 wr=>∃ r:Nat,r≤R∧v37=.int .i64 r∧In lo w wr∧Bx wr X 130 [.pointer (some ⟨p,0,none⟩)]∧Bx wr (X+1) 3 [.int .i64 t]∧ElAt wr lo p R m cols (some ⟨rb,0,none⟩) rc pv f ⟨clrTo s.M t k r,s.piv,e⟩) (fun v37 _=>R - (RowKit.intOf v37).toNat)
 case atStart=>exact⟨0,Nat.zero_le _,rfl,hin6,bX6,bY6,el6⟩
 case round=>
  clear hin6 bX6 bY6 el6
  obtain⟨r,hr,rfl,hin,bX,bY,el⟩:=hrel
  by_cases hrR:r<R
  ·have rI:(r:Int)<R:=by omega
   have r0:(0:Int)≤r:=by omega
   have hrw:IntKind.i64.wrap ((r:Int)+1)=((r+1:Nat):Int):=IntWalk.i64_in _ (by omega)
   obtain⟨rb2,cs2,he2,_,hBr,hcr⟩:=el.rw.rows r hrR
   obtain rfl:rb=rb2:=by injection he2 with h1;injection h1
   have hrow:VBx wr (f r) (vl m (clrTo s.M t k r r)):=el.rw.row r hrR
   obtain⟨v,hv⟩:∃ v,v=clrTo s.M t k r r k:=⟨_,rfl⟩
   have HV:=Lib.hid hv
   obtain⟨B1,B2,B3,B4,B5,hB,hB'⟩:∃ A1 A2 A3 A4 A5,fracV v=.agg #[.int .u64 A1,.string A2,.bool A3,.int .u64 A4,.string A5]∧fcs v=[.int .u64 A1,.string A2,.bool A3,.int .u64 A4,.string A5]:=⟨_,_,_,_,_,rfl,rfl⟩
   obtain⟨c0,c1,c2,c3,c4⟩:=VBx.eltc hrow hk (by rw[←hv];exact hB')
   have rc0:=(hBr.cell r).trans hcr
   have rl:=hBr.lt
   have fl:=hrow.lt
   have hbox:=el.box
   have b0:=hbox.c0
   have bl:=hbox.lt
   have hfr:f r<wr.heap.size:=hrow.lt
   have HCR:=Lib.hid hcr
   have HB:=Lib.hid hB'
   have HBV:=Lib.hid hB
   (have x0:=bX.c0;have xl:=bX.lt)
   (have y0:=bY.c0;have yl:=bY.lt)
   clear hv hB hB' hcr he2 hbox
   go_upto_region 8 with fail
   ((obtain⟨Cb,hCb⟩:∃ z,z=wr.heap.size:=⟨_,rfl⟩);(have bCb:=Bx.new_at wr #[.int .u64 B1,.string B2,.bool B3,.int .u64 B4,.string B5] 72 hCb);(have hfC:f r<Cb:=by rw[hCb];exact hfr);clear x0 xl y0 yl;(replace hin:=hin.alloc (.cells #[.int .u64 B1,.string B2,.bool B3,.int .u64 B4,.string B5] 72));(replace hBr:=hBr.alloc (.cells #[.int .u64 B1,.string B2,.bool B3,.int .u64 B4,.string B5] 72));(replace hrow:=hrow.alloc (.cells #[.int .u64 B1,.string B2,.bool B3,.int .u64 B4,.string B5] 72));(replace bX:=bX.alloc (.cells #[.int .u64 B1,.string B2,.bool B3,.int .u64 B4,.string B5] 72));(replace bY:=bY.alloc (.cells #[.int .u64 B1,.string B2,.bool B3,.int .u64 B4,.string B5] 72));(replace el:=el.call ((Below.refl _ _).alloc (Nat.le_refl _) (.cells #[.int .u64 B1,.string B2,.bool B3,.int .u64 B4,.string B5] 72)));(rw[←hCb]);clear hCb;(generalize wr.alloc (.cells #[.int .u64 B1,.string B2,.bool B3,.int .u64 B4,.string B5] 72)=W7 at *))
   clear c0 c1 c2 c3 c4 rc0 rl fl b0 bl
   (have x0:=bX.c0;have xl:=bX.lt)
   (have y0:=bY.c0;have yl:=bY.lt)
   (have g0:=bCb.c0;have g1:=bCb.c1;have g2:=bCb.c2;have g3:=bCb.c3;have g4:=bCb.c4;have gl:=bCb.lt)
   by_cases hrt:r=t
   ·subst hrt
    have HIN:=Lib.hid hin
    have HEL:=Lib.hid (el.congr (M':=clrTo s.M r k (r+1)) fun i c _ _=>clrTo_top s.M r k i c)
    have HX1:=Lib.hid bX
    have HY1:=Lib.hid bY
    clear hin el bCb hBr hrow bX bY
    go_wp2_with fail
    exact⟨⟨r+1,by omega,by go_num,HIN.out,HX1.out,HY1.out,HEL.out⟩,by simp[RowKit.intOf];omega⟩
   ·have hne:((r:Int) == t)=false:=by
     have:¬ (r:Int)=t:=by omega
     simpa using this
    have hvM:v=s.M r k:=by rw[HV.out];exact clrTo_now s.M t k r k hrt
    have csg:=fsign_any v
    rw[HBV.out] at csg
    obtain⟨sg,hsg⟩:∃ sg,sg=isign v.num:=⟨_,rfl⟩
    rw[←hsg] at csg
    have hsg0:sg=0↔v=0:=by rw[hsg,isign_zero,Rat.num_eq_zero]
    have HVM:=Lib.hid hvM
    clear hsg hvM
    (go_wp2_with fail;(((with_reducible refine(csg _).mono ?_)));rintro e wc2 ⟨rfl,hb⟩;clear x0 xl y0 yl g0 g1 g2 g3 g4 gl csg;replace hin:=hin.call hb;replace el:=el.call hb;replace hBr:=hBr.call hb;replace hrow:=hrow.call hb;replace bX:=bX.call hb;replace bY:=bY.call hb;replace bCb:=bCb.call hb;clear hb)
    by_cases hv0:v=0
    ·have hs0:=hsg0.2 hv0
     subst hs0
     have HIN:=Lib.hid hin
     have HEL:=Lib.hid (el.congr (M':=clrTo s.M t k (r+1)) fun i c _ _=>clrTo_skip s.M t k r (by rw[←HVM.out];exact hv0) i c)
     have HX1:=Lib.hid bX
     have HY1:=Lib.hid bY
     clear hin el bCb hBr hrow bX bY hv0 hsg0
     go_wp2_with fail
     exact⟨⟨r+1,by omega,by go_num,HIN.out,HX1.out,HY1.out,HEL.out⟩,by simp[RowKit.intOf];omega⟩
    ·have hs1:(sg == 0)=false:=by
      have:¬ sg=0:=fun h=>hv0 (hsg0.1 h)
      simpa using this
     clear hsg0
     obtain⟨rb3,cs3,he3,_,hBt,hct3⟩:=el.rw.rows t ht
     obtain rfl:rb=rb3:=by injection he3 with h1;injection h1
     have hrowt:VBx wc2 (f t) (vl m (clrTo s.M t k r t)):=el.rw.row t ht
     have hftr:¬ f t=f r:=fun h=>hrt (el.rw.inj _ _ ht hrR h).symm
     have hXr:=bX.ne_type hrow (by decide)
     have hYr:=bY.ne_type hrow (by decide)
     have hpr:=el.box.ne_type hrow (by decide)
     have hrr:=hBt.ne_type hrow (by decide)
     have hCr:¬ Cb=f r:=by omega
     have cE:=each_any' (x:=clrTo s.M t k r r) (F:=clrTo s.M t k (r+1) r) wc2 p rb R rc r _ cs2 el.box hBr hrR HCR.out hrow hm 156 #[.pointer (some ⟨Cb,0,none⟩),.pointer (some ⟨X,0,none⟩),.pointer (some ⟨X+1,0,none⟩)] (enters_of Tryz.func156 (by kernel_rfl) rfl) (fun c W hc hg=>by
      have hCW:Bx W Cb 72 (fcs v):=by rw[HB.out];exact bCb.grown hg (fun h=>hCr (Option.some.inj h))
      have h0:=clr2_any (i:=z) (j:=z) (l:=z+z) W Cb X (X+1) p rb (f t) R rc m c t _ cs3 v (clrTo s.M t k r r c) (clrTo s.M t k r t) hCW (bX.grown hg (fun h=>hXr (Option.some.inj h))) (bY.grown hg (fun h=>hYr (Option.some.inj h))) (el.box.grown hg (fun h=>hpr (Option.some.inj h))) (hBt.grown hg (fun h=>hrr (Option.some.inj h))) ht hct3 (hrowt.grown hg (fun h=>hftr (Option.some.inj h))) hc
       (by rw[HVM.out];exact HZ.out r k hrR hk) (by rw[clrTo_now s.M t k r c hrt];exact HZ.out r c hrR hc) (by rw[clrTo_t];exact(HZ.out t c ht hc).div (HZ.out t k ht hk)) (by omega)
      have e:clrTo s.M t k r r c - v*clrTo s.M t k r t c=clrTo s.M t k (r+1) r c:=by
       rw[clrTo_now s.M t k r c hrt,clrTo_t,clrTo_next s.M t k r c hrt,HVM.out]
      rw[e] at h0
      exact h0)
     (have x0:=bX.c0;have xl:=bX.lt)
     (have y0:=bY.c0;have yl:=bY.lt)
     go_wp2_with fail
     (refine cE.mono ?_)
     rintro e1 W8 ⟨rfl,hv8,hg8⟩
     have HEL:=Lib.hid (el.set (M':=clrTo s.M t k (r+1)) hrR hg8 hv8 (fun j c _ hj _=>clrTo_other s.M t k r hj c))
     have HIN:=Lib.hid (hin.grown hg8 (el.rw.low r hrR))
     have HX1:=Lib.hid (bX.grown hg8 (fun h=>hXr (Option.some.inj h)))
     have HY1:=Lib.hid (bY.grown hg8 (fun h=>hYr (Option.some.inj h)))
     clear cE hv8 hg8 hin el bCb hBr hrow bX bY hBt hrowt hct3 x0 xl y0 yl
     go_wp2_with fail
     exact⟨⟨r+1,by omega,by go_num,HIN.out,HX1.out,HY1.out,HEL.out⟩,by simp[RowKit.intOf];omega⟩
  ·obtain rfl:r=R:=by omega
   have rI:¬ (r:Int)<r:=by omega
   have HIN:=Lib.hid hin
   have HEL:=Lib.hid (el.congr (M':=rowClear s.M t k) fun i c hi _=>clrTo_full s.M t k r hi)
   clear hin bX bY el
   go_wp2_with fail
   go_end0
   exact⟨rfl,HIN.out,by have:=HEL.out;rw[HE.out,HD9.out,HQ.out] at this;exact this⟩
end Gus
end
section
namespace Gus
open Go Go.RowKit Go.Proofs
theorem RwAt.swap {w:World} {lo R m rb i k:Nat} {f:Nat→Nat} {M:Mx} {cs:List Value} (h:RwAt w lo R m (some ⟨rb,0,none⟩) f M) (hB:Bx w rb 31 cs) (hlo:lo≤rb) (hi:i<R) (hk:k<R) (hik:i≠k) :
  RwAt ((w.setCell ⟨rb,i,none⟩ (.slice (some ⟨f k,0,none⟩) m m)).setCell ⟨rb,k,none⟩ (.slice (some ⟨f i,0,none⟩) m m)) lo R m (some ⟨rb,0,none⟩) (fun j=>if j=i then f k else if j=k then f i else f j) (rowSwap M i k):=by
 have hrow:∀ j,j<R→cs[j]?=some (.slice (some ⟨f j,0,none⟩) m m):=fun j hj=>by
  obtain⟨rb',cs',h1,_,h3,h4⟩:=h.rows j hj
  obtain rfl:rb=rb':=by injection h1 with h1;injection h1
  have h6:w.heap[rb]?=some (Obj.cells cs.toArray _ (0,0)):=hB
  have h7:w.heap[rb]?=some (Obj.cells cs'.toArray _ (0,0)):=h3
  rw[h6] at h7
  injection h7 with h7
  injection h7 with h8
  have h9:cs=cs':=by simpa using h8
  rw[h9];exact h4
 have hne:∀ j,j<R→¬ rb=f j:=fun j hj=>hB.ne_type (h.row j hj) (by decide)
 have hlen:∀ j,j<R→j<cs.length:=fun j hj=>by
  have:=hrow j hj
  exact(List.getElem?_eq_some_iff.1 this).1
 have hkeep:∀ j,j<R→∀ q,VBx w (f j) q→VBx ((w.setCell ⟨rb,i,none⟩ (.slice (some ⟨f k,0,none⟩) m m)).setCell ⟨rb,k,none⟩ (.slice (some ⟨f i,0,none⟩) m m)) (f j) q:=fun j hj q hq=>
  (Bx.other (a:=⟨rb,i,none⟩) hq (hne j hj) _).other (a:=⟨rb,k,none⟩) (hne j hj) _
 refine⟨fun j hj=>⟨rb,_,rfl,hlo,(hB.set i _).set k _, ?_⟩,fun j hj=>?_,fun a b ha hb hab=>?_,fun j hj=>?_⟩
 ·by_cases h1:j=i
  ·subst h1
   rw[if_pos rfl,List.getElem?_set_ne (Ne.symm hik),List.getElem?_set_self (hlen j hj)]
  ·rw[if_neg h1]
   by_cases h2:j=k
   ·subst h2
    rw[if_pos rfl,List.getElem?_set_self (by rw[List.length_set];exact hlen j hj)]
   ·rw[if_neg h2,List.getElem?_set_ne (fun e=>h2 e.symm),List.getElem?_set_ne (fun e=>h1 e.symm)]
    exact hrow j hj
 ·unfold rowSwap
  by_cases h1:j=i
  ·simp only[if_pos h1];exact hkeep k hk _ (h.row k hk)
  ·simp only[if_neg h1]
   by_cases h2:j=k
   ·simp only[if_pos h2];exact hkeep i hi _ (h.row i hi)
   ·simp only[if_neg h2];exact hkeep j hj _ (h.row j hj)
 ·by_cases a1:a=i <;> by_cases b1:b=i
  ·omega
  ·rw[if_pos a1,if_neg b1] at hab
   by_cases b2:b=k
   ·rw[if_pos b2] at hab;have:=h.inj _ _ hk hi hab;omega
   ·rw[if_neg b2] at hab;have:=h.inj _ _ hk hb hab;omega
  ·rw[if_neg a1,if_pos b1] at hab
   by_cases a2:a=k
   ·rw[if_pos a2] at hab;have:=h.inj _ _ hi hk hab;omega
   ·rw[if_neg a2] at hab;have:=h.inj _ _ ha hk hab;omega
  ·rw[if_neg a1,if_neg b1] at hab
   by_cases a2:a=k <;> by_cases b2:b=k
   ·omega
   ·rw[if_pos a2,if_neg b2] at hab;have:=h.inj _ _ hi hb hab;omega
   ·rw[if_neg a2,if_pos b2] at hab;have:=h.inj _ _ ha hi hab;omega
   ·rw[if_neg a2,if_neg b2] at hab;exact h.inj _ _ ha hb hab
 ·show lo≤(if j=i then f k else if j=k then f i else f j)
  split
  ·exact h.low k hk
  ·split
   ·exact h.low i hi
   ·exact h.low j hj
theorem rowSwap_self (M:Mx) (i r c:Nat):rowSwap M i i r c=M r c:=by
 unfold rowSwap
 by_cases h:r=i
 ·rw[if_pos h,h]
 ·rw[if_neg h,if_neg h]
set_option maxRecDepth 100000 in
set_option maxHeartbeats 4000000 in
theorem swap_any (w:World) (lo p R m cols rc i k:Nat) (ra:Option Addr) (pv:Value) (f:Nat→Nat) (s:El) (h:ElAt w lo p R m cols ra rc pv f s) (hi:i<R) (hk:k<R) (hlo:lo≤w.heap.size) :
  Calls Tryz.prog 111 #[.pointer (some ⟨p,0,none⟩),.int .i64 (i:Nat),.int .i64 (k:Nat)] w fun e w'=>e=.returned (.tuple #[])∧In lo w w'∧∃ f',ElAt w' lo p R m cols ra rc pv f' ⟨rowSwap s.M i k,s.piv,if i=k then s.det else -s.det⟩:=by
 have hin:In lo w w:=⟨Below.refl _ _,hlo⟩
 by_cases hik:i=k
 ·subst hik
  have H1:=Lib.hid (h.congr (M':=rowSwap s.M i i) fun r c _ _=>(rowSwap_self _ _ _ _).symm)
  have hb:((i:Int) != i)=false:=by simp
  have HIN:=Lib.hid hin
  clear h hin
  go_enter Tryz.func111,Tryz.ntmps111
  go_wp2_with fail
  go_end0
  exact⟨rfl,HIN.out,f,H1.out⟩
 ·obtain⟨rb,cs,rfl,hrb,hBr,hci⟩:=h.rw.rows i hi
  have hrows:=h.rw.rows k hk
  obtain⟨rb2,cs2,he2,_,hBr2,hck⟩:=hrows
  obtain rfl:rb=rb2:=by injection he2 with h1;injection h1
  have r0:w.cell? ⟨rb,i,none⟩=some (.slice (some ⟨f i,0,none⟩) m m):=(hBr.cell i).trans hci
  have r1:w.cell? ⟨rb,k,none⟩=some (.slice (some ⟨f k,0,none⟩) m m):=(hBr2.cell k).trans hck
  have iR:(i:Int)<R:=by omega
  have i0:(0:Int)≤i:=by omega
  have kR:(k:Int)<R:=by omega
  have k0:(0:Int)≤k:=by omega
  have hne:((i:Int) != k)=true:=by
   have:¬ (i:Int)=k:=by omega
   simpa using this
  have rl:=hBr.lt
  have HC0:=Lib.hid hci
  have HC1:Hid (cs[k]?=some (.slice (some ⟨f k,0,none⟩) m m)):=Lib.hid (by rw[←hBr.cell k];exact(hBr2.cell k).trans hck)
  obtain⟨d,hd⟩:∃ d,d=s.det:=⟨_,rfl⟩
  have hbox:=h.box
  rw[←hd] at hbox
  obtain⟨D1,D2,D3,D4,D5,hD,hD'⟩:∃ A1 A2 A3 A4 A5,fracV d=.agg #[.int .u64 A1,.string A2,.bool A3,.int .u64 A4,.string A5]∧fcs d=[.int .u64 A1,.string A2,.bool A3,.int .u64 A4,.string A5]:=⟨_,_,_,_,_,rfl,rfl⟩
  rw[hD'] at hbox
  have b0:=hbox.c0;have b1:=hbox.c1;have b2:=hbox.c2;have b3:=hbox.c3;have b4:=hbox.c4;have b5:=hbox.c5;have b6:=hbox.c6;have b7:=hbox.c7;have bl:=hbox.lt
  have cn:=fneg_any d
  rw[hD] at cn
  obtain⟨P1,P2,P3,P4,P5,hP,hP'⟩:∃ A1 A2 A3 A4 A5,fracV (-d)=.agg #[.int .u64 A1,.string A2,.bool A3,.int .u64 A4,.string A5]∧fcs (-d)=[.int .u64 A1,.string A2,.bool A3,.int .u64 A4,.string A5]:=⟨_,_,_,_,_,rfl,rfl⟩
  rw[hP] at cn
  have HEL:=Lib.hid h
  have HBR:=Lib.hid hBr
  have HIN:=Lib.hid hin
  have HD:=Lib.hid hd
  have HP:=Lib.hid hP'
  have HDF:=Lib.hid hD'
  clear h hin hBr hBr2 hci hck he2 hbox hd hD hD' hP hP'
  go_enter Tryz.func111,Tryz.ntmps111
  go_upto_region 1 with fail
  have h:=In.self w
  have hc:=h.cell
  have hf:=h.frozen
  refine tfw 24 ?_;refine tset ?_;(repeat (first | refine tfs ?_))
  (try clear hc hf h);intro u w' h ha hdi;replace h:=tsz h.ins;replace ha:=tah ha;have hc:=h.cell;have hf:=h.frozen
  (try obtain ha:=ha);(try dsimp only);simp only[ha];clear ha hdi
  have E0:=HEL.out.call h.bel
  have B0:=HBR.out.call h.bel
  have hg1:=(gr_cell w' ⟨rb,i,none⟩ (.slice (some ⟨f k,0,none⟩) m m)).trans (gr_cell _ ⟨rb,k,none⟩ (.slice (some ⟨f i,0,none⟩) m m))
  have E1:ElAt ((w'.setCell ⟨rb,i,none⟩ (.slice (some ⟨f k,0,none⟩) m m)).setCell ⟨rb,k,none⟩ (.slice (some ⟨f i,0,none⟩) m m)) lo p R m cols (some ⟨rb,0,none⟩) rc pv (fun j=>if j=i then f k else if j=k then f i else f j) ⟨rowSwap s.M i k,s.piv,s.det⟩:=
   ⟨E0.box.grown hg1 (fun e=>by injection e with e;exact E0.box.ne_type B0 (by decide) e),E0.plo,E0.rcap,E0.rw.swap B0 hrb hi hk hik,ownsRow_grown E0.piv B0 (by decide) hg1⟩
  have I1:=((HIN.out.call h.bel).setCell (p:=⟨rb,i,none⟩) hrb (.slice (some ⟨f k,0,none⟩) m m)).setCell (p:=⟨rb,k,none⟩) hrb (.slice (some ⟨f i,0,none⟩) m m)
  have HE1:=Lib.hid E1
  have HI1:=Lib.hid I1
  have rf0:=B0.frozen i
  have rf1:=B0.frozen k
  have r0:=(B0.cell i).trans HC0.out
  have r1:=(B0.cell k).trans HC1.out
  have rl:=B0.lt
  clear E0 B0 hg1 E1 I1 h hc hf b0 b1 b2 b3 b4 b5 b6 b7 bl
  go_upto_region 2 with fail
  have E1:=HE1.out
  have I1:=HI1.out
  clear HE1 HI1 rf0 rf1 r0 r1 rl HEL HBR HIN HC0 HC1
  generalize (w'.setCell ⟨rb,i,none⟩ (.slice (some ⟨f k,0,none⟩) m m)).setCell ⟨rb,k,none⟩ (.slice (some ⟨f i,0,none⟩) m m)=W2 at *
  have hbox:Bx W2 p 136 (.slice (some ⟨rb,0,none⟩) R rc :: .int .i64 cols :: pv :: fcs s.det):=E1.box
  rw[←HD.out,HDF.out] at hbox
  have b0:=hbox.c0;have b1:=hbox.c1;have b2:=hbox.c2;have b3:=hbox.c3;have b4:=hbox.c4;have b5:=hbox.c5;have b6:=hbox.c6;have b7:=hbox.c7;have bl:=hbox.lt
  go_wp2_with fail
  ((with_reducible refine(cn _).mono ?_))
  rintro e W3 ⟨rfl,hb⟩
  have E3:=E1.call hb
  have I3:=I1.call hb
  have hs:=E3.setDet (q:=-d) HP.out
  have H1:=Lib.hid hs.1
  have H2:=Lib.hid (I3.grown hs.2 E3.plo)
  replace hbox:=hbox.call hb
  clear b0 b1 b2 b3 b4 b5 b6 b7 bl hb E1 I1 E3 I3 hs cn
  have b0:=hbox.c0;have b1:=hbox.c1;have b2:=hbox.c2;have b3:=hbox.c3;have b4:=hbox.c4;have b5:=hbox.c5;have b6:=hbox.c6;have b7:=hbox.c7;have bl:=hbox.lt
  have bf0:=hbox.frozen 0;have bf1:=hbox.frozen 1;have bf2:=hbox.frozen 2;have bf3:=hbox.frozen 3;have bf4:=hbox.frozen 4;have bf5:=hbox.frozen 5;have bf6:=hbox.frozen 6;have bf7:=hbox.frozen 7
  go_wp2_with fail
  go_end0
  exact⟨rfl,H2.out,_,by have:=H1.out;rw[HD.out] at this;exact this⟩
end Gus
end
