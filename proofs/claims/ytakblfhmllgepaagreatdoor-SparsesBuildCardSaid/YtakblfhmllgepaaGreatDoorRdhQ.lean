/- Proved here: parts of the proof: Rdh Rdi. Conditions: those that each theorem states. -/
import Derived.Test.YtakblfhmllgepaaGreatDoorRdeQ
import Derived.Test.YtakblfhmllgepaaGreatDoorFlowCQ
section
/- The reference's numbers: Div. -/
namespace Gus
open Go Go.RowKit Go.Proofs
/-- quotient and remainder -/
def RDiv (w : World) (m n : Nat) (e : Ending) (w' : World) : Prop := ∃ q r, e = .returned (.tuple #[q, r]) ∧ NV w' q (m / n) ∧ NV w' r (m % n) ∧ Below w.heap.size w w'
theorem NV.zero (w : World) : NV w (.slice none 0 0) 0 := ⟨none, 0, rfl, Nat.le_refl _, by decide, fun i hi => absurd hi (by simp [D.wd_zero]), fun h => absurd rfl h⟩
set_option maxRecDepth 100000 in
set_option maxHeartbeats 1000000 in
theorem rdiv_small (w : World) (v1 v2 : Value) (m n : Nat) (hmn : m < n) (h1 : NV w v1 m) (h2 : NV w v2 n) (hs1 : (D.wd m).length ≤ 1099511627776) :
    Calls Tryz.prog 85 #[v1, v2] w fun e w' => RDiv w m n e w' := by
  have hc := rcmp_any w v1 v2 m n h1 h2 hs1
  rw [cmpN_lt hmn] at hc
  have H1 := Lib.hid h1
  have hdm : m / n = 0 := Nat.div_eq_of_lt hmn
  have hmm : m % n = m := Nat.mod_eq_of_lt hmn
  unfold RDiv
  rw [hdm, hmm]
  obtain ⟨z, hz⟩ : ∃ z, z = (-1 : Int) := ⟨_, rfl⟩
  rw [← hz] at hc
  have hzI : z < 0 := by omega
  have hw := In.self w
  obtain ⟨a1, c1, rfl, _⟩ := h1
  obtain ⟨L, hL⟩ : ∃ L, L = (D.wd m).length := ⟨_, rfl⟩
  rw [← hL] at hc ⊢
  have HL := Lib.hid hL
  clear h2 hmn hs1 hdm hmm hz hL
  go_enter Tryz.func85, Tryz.ntmps85
  go_wp2_with fail
  ((with_reducible refine hc.mono ?_))
  rintro e w' ⟨rfl, hb⟩
  replace hw := hw.call hb
  have HB := Lib.hid hb
  clear hb hc
  go_wp2_with fail
  go_ret2
  have h := H1.out.call HB.out
  rw [← HL.out] at h
  exact ⟨_, _, rfl, NV.zero _, h, HB.out⟩
theorem nrm_drop : ∀ (l : List Nat) (k : Nat), D.Nrm l → D.Nrm (l.drop k)
  | _, 0, h => h
  | [], _ + 1, _ => trivial
  | _ :: l, k + 1, h => nrm_drop l k h.tail
theorem wd_drop {m : Nat} {xs : List Nat} (h : xs = D.wd m) (k : Nat) : D.wd (D.val (xs.drop k)) = xs.drop k :=
  (D.eq_wd (by rw [h]; exact (D.wd_digs m).drop k) (nrm_drop _ _ (by rw [h]; exact D.wd_nrm m)) rfl).symm
theorem own_empty (W : World) (base : Nat) (hb : base ≤ W.heap.size) : (W.alloc (.cells #[] 3)).ownsRow base 3 1 (.slice (some ⟨W.heap.size, 0, none⟩) 0 0) 0 [] :=
  ⟨rfl, .inr ⟨W.heap.size, 0, #[], rfl, hb, heap_alloc_new W _, Nat.le_refl _, by simp [maxLen], rfl, rfl⟩⟩
theorem DsAt.cells {w : World} {b off : Nat} {l : List Nat} (h : DsAt w (some ⟨b, off, none⟩) l) (k : Nat) : ∀ j u, (dcl (l.drop k))[j]? = some u → w.cell? ((⟨b, off + k, none⟩ : Addr).add j) = some u := fun j u hj => by
  have hlt : k + j < l.length := by
    have := (List.getElem?_eq_some_iff.1 hj).1
    simp [dcl] at this; omega
  obtain ⟨b', off', he, _, hc⟩ := h.at hlt
  simp only [Option.some.injEq, Addr.mk.injEq] at he
  obtain ⟨rfl, rfl, _⟩ := he
  rw [dcl_get (by simp; omega)] at hj
  rw [Addr.add_lit, Nat.add_assoc, hc, ← hj]
  simp [List.getD_eq_getElem?_getD]
/-- digits appended to digits of one's own, wherever they lie -/
theorem wpList_append_ds {ops : Array Oper} {rest : List Oper} {o : Oper} {a : Act} {Q : Exit → Act → World → Prop} {w : World} (hgd : o.guard = none) (s x : Operand) (t : TypeId)
    (ho : o.op = .call { callee := .builtin .append, args := #[s, x], argTypes := #[t, t] })
    (base : Nat) (i : TypeInfo) (ht : Tryz.prog.underlying t = some (.slice 3)) (hi : Tryz.prog.info? 3 = some i) (hz : i.zero = some (.int .i64 0)) (hsize : i.size = 1) (hby : i.bytes = 8)
    (E : Addr) (n k : Nat) (xs : List Value) (hs : a.eval s = .slice (some E) n k) (hown : w.ownsRow base 3 1 (.slice (some E) n k) n xs)
    (sa : Option Addr) (m c : Nat) (l : List Nat) (hx : a.eval x = .slice sa m c) (hl : m = l.length) (hd : DsAt w sa l) (hm : n + m ≤ 2199023255552) (hbase : base ≤ w.heap.size)
    (h : ∀ v' w', w'.ownsRow base 3 1 v' (n + m) (xs ++ dcl l) → w.grownBy w' (Value.slice (some E) n k).ownBlock → wpList Tryz.prog ops Q rest (a.put o.dst v') w') : wpList Tryz.prog ops Q (o :: rest) a w := by
  have hlen : (dcl l).length = m * 1 := by simp [dcl, hl]
  cases sa with
  | some ad =>
    obtain ⟨b, off, fr⟩ := ad
    refine wpList_append_own w hgd s x t ho base 3 i (.int .i64 0) 1 8 ht hi hz hsize hby rfl (by decide) _ n xs hs hown ⟨b, off, fr⟩ m c (dcl l) hx hlen ?_ ?_ (by simp only [maxLen]; omega) (by omega) hbase (fun v' w' h1 h2 _ => h v' w' h1 h2)
    · intro j u hj
      have hlt : j < l.length := by
        have := (List.getElem?_eq_some_iff.1 hj).1
        simpa [dcl] using this
      obtain ⟨b', off', he, _, hc⟩ := hd.at hlt
      simp only [Option.some.injEq] at he
      rw [he, Addr.add_lit, hc, ← hj, dcl_get hlt]
    · intro u hu
      simp only [dcl, List.mem_map] at hu
      obtain ⟨d, _, rfl⟩ := hu; rfl
  | none =>
    have hm0 : m = 0 := by
      rw [hl]
      cases l with
      | nil => rfl
      | cons d l => obtain ⟨b', off', he, _⟩ := hd.at (i := 0) (by simp); cases he
    have hle : n ≤ k := by
      rcases hown.2 with ⟨h1, _⟩ | ⟨g, cap, cur, h1, _, _, h2, _⟩
      · cases h1
      · cases h1; exact h2
    have hf := fun W => run_firstCells_none (P := Tryz.prog) (w := W) 1 m m c
    have hap : ∀ W, (Builtin.append_ #[t, t] o.type #[.slice (some E) n k, .slice none m c]).run Tryz.prog W = .ok (.slice (some E) n k) W := fun W => by
      subst hm0
      have hle' : n + 0 ≤ k := hle
      simp [Builtin.append_, run_underlying ht, Go.sizeOf, typeInfo, hi, hsize, Builtin.lenOf, hf, storeCells, hle]
    refine wpList_plain hgd fun K hK' => ?_
    unfold Oper.wp execOp
    simp only [ho, resolve, invoke, builtin, Sem.run_bind, Sem.run_pure, Result.andThen_ok, List.map_toArray, List.map_cons, List.map_nil, hs, hx, hap]
    refine hK' _ _ (h _ _ ?_ ⟨rfl, rfl, rfl, Nat.le_refl _, fun _ _ _ => rfl⟩)
    have hl0 : l = [] := List.length_eq_zero_iff.1 (by rw [← hl]; exact hm0)
    rw [hm0, hl0]
    show w.ownsRow base 3 1 _ (n + 0) (xs ++ [])
    rw [List.append_nil]; exact hown
theorem wd_ge {n : Nat} (h : 0 < (D.wd n).length) : 10000 ^ ((D.wd n).length - 1) ≤ n := by
  rcases List.eq_nil_or_concat (D.wd n) with h0 | ⟨l, d, h0⟩
  · rw [h0] at h; exact absurd h (by simp)
  · rw [List.concat_eq_append] at h0
    have hn := D.wd_nrm n; rw [h0, D.Nrm.snoc] at hn
    have hv := D.wd_val n; rw [h0] at hv
    have := D.val_ge_of_nrm l d hn
    rw [h0, List.length_append, List.length_singleton, Nat.add_sub_cancel]; omega
/-- one digit of a long division -/
theorem div_round {xs zs : List Nat} {j n rv d : Nat} (hj : j + 1 ≤ xs.length) (hz : j < zs.length) (h : D.val (xs.drop (j + 1)) = n * D.val (zs.drop (j + 1)) + rv) (hd : d = (xs.getD j 0 + 10000 * rv) / n) :
    D.val (xs.drop j) = n * D.val ((zs.set j d).drop j) + (xs.getD j 0 + 10000 * rv - n * d) := by
  have h1 := drop_step (l := xs) (j := j) (by omega)
  have h2 := drop_step (l := zs.set j d) (j := j) (by rw [List.length_set]; exact hz)
  have h3 : (zs.set j d).drop (j + 1) = zs.drop (j + 1) := by rw [List.drop_set_of_lt (by omega)]
  have h4 : (zs.set j d).getD j 0 = d := by simp [List.getD_eq_getElem?_getD, hz]
  rw [h3, h4] at h2
  have h5 : n * d ≤ xs.getD j 0 + 10000 * rv := by rw [hd]; exact Nat.mul_div_le _ _
  rw [h1, h2, h]
  have e1 : 10000 * (n * D.val (zs.drop (j + 1)) + rv) = 10000 * (n * D.val (zs.drop (j + 1))) + 10000 * rv := Nat.mul_add _ _ _
  have e2 : n * (10000 * D.val (zs.drop (j + 1))) = 10000 * (n * D.val (zs.drop (j + 1))) := by rw [← Nat.mul_assoc, Nat.mul_comm n 10000, Nat.mul_assoc]
  have e3 : n * (d + 10000 * D.val (zs.drop (j + 1))) = n * d + n * (10000 * D.val (zs.drop (j + 1))) := Nat.mul_add _ _ _
  omega
theorem own_one (W : World) (base x : Nat) (hb : base ≤ W.heap.size) : (W.alloc (.cells #[.int .i64 (x : Nat)] 3)).ownsRow base 3 1 (.slice (some ⟨W.heap.size, 0, none⟩) 1 1) 1 (dcl [x]) :=
  ⟨rfl, .inr ⟨W.heap.size, 1, #[.int .i64 (x : Nat)], rfl, hb, heap_alloc_new W _, Nat.le_refl _, by simp [maxLen], rfl, rfl⟩⟩
end Gus
end
section
/- The reference's numbers: Div, where the quotient is not zero. -/
namespace Gus
open Go Go.RowKit Go.Proofs
def DivS (w : World) (g : Nat) (zs : List Nat) (r : Nat) (v : Value) (wx : World) : Prop := In w.heap.size w wx ∧ w.heap.size ≤ g ∧ DBx wx g zs ∧ NV wx v r
set_option maxRecDepth 100000 in
set_option maxHeartbeats 4000000 in
def rdiv_big_q1 : {P : Prop // P → ∀ (w : World) (v1 v2 : Value) (m n : Nat) (_ : n ≤ m) (_ : 0 < n) (_ : NV w v1 m) (_ : NV w v2 n) (_ : (D.wd m).length ≤ 549755813888), Calls Tryz.prog 85 #[v1, v2] w fun e w' => RDiv w m n e w'} := ⟨_, fun Kcut => by
  replace Kcut : Keep _ := ⟨Kcut⟩
  intro w v1 v2 m n hmn hn0 h1 h2 hs1
  obtain ⟨i0, hi0, hi1, hi2, hi3⟩ := info_parts info_int8
  have hc := rcmp_any w v1 v2 m n h1 h2 (by omega)
  obtain ⟨z, hz⟩ : ∃ z, z = cmpN m n := ⟨_, rfl⟩
  have hzI : ¬ z < 0 := by rw [hz, cmpN_neg]; omega
  rw [← hz] at hc
  have hlen := D.wd_mono hmn
  have H2 := Lib.hid h2
  obtain ⟨a1, c1, rfl, hc1, _, hx⟩ := h1
  obtain ⟨a2, c2, rfl, _, _, hy⟩ := h2
  obtain ⟨xs, hxs⟩ : ∃ xs, xs = D.wd m := ⟨_, rfl⟩
  obtain ⟨ys, hys⟩ : ∃ ys, ys = D.wd n := ⟨_, rfl⟩
  rw [← hxs] at hx hs1 hlen hc1 hc ⊢
  rw [← hys] at hy hlen hc H2 ⊢
  have hdx : D.Digs xs := by rw [hxs]; exact D.wd_digs m
  have hdy : D.Digs ys := by rw [hys]; exact D.wd_digs n
  have hM0 : 0 < ys.length := by
    rw [hys]
    cases h : D.wd n with
    | nil => have := D.wd_val n; rw [h] at this; exact absurd this (by show ¬ 0 = n; omega)
    | cons _ _ => simp
  have HXW := Lib.hid hxs
  have HYW := Lib.hid hys
  obtain ⟨L, hL⟩ : ∃ k, k = xs.length := ⟨_, rfl⟩
  obtain ⟨M, hM⟩ : ∃ k, k = ys.length := ⟨_, rfl⟩
  obtain ⟨f, hf⟩ : ∃ f, f = M - 3 := ⟨_, rfl⟩
  obtain ⟨t, ht⟩ : ∃ t, t = D.val (ys.drop f) := ⟨_, rfl⟩
  have hlead := fun W (h : Below w.heap.size w W) => rlead_any W a2 c2 f ys (DsAt.call hy h) hdy (by omega) (by omega)
  rw [← ht, ← hM] at hlead
  rw [← hL] at hs1 hlen hc hc1 ⊢
  rw [← hM] at hlen hM0 hc H2 ⊢
  have HT := Lib.hid ht
  have HX := Lib.hid hx
  have HY := Lib.hid hy
  have HDX := Lib.hid hdx
  have HDY := Lib.hid hdy
  have HL := Lib.hid hL
  have HM := Lib.hid hM
  have HLE := Lib.hid hlead
  have hmax : max (0 : Int) ((M : Int) - 3) = (f : Int) := by omega
  have HF := Lib.hid hf
  have hfM : f ≤ M := by omega
  clear hf
  have hw := In.self w
  clear hxs hys hx hy hdx hdy hL hM ht hlead hz hmn
  go_enter Tryz.func85, Tryz.ntmps85
  go_wp2_with fail
  ((with_reducible refine hc.mono ?_))
  rintro e w1 ⟨rfl, hb⟩
  replace hw := hw.call hb
  clear hc hb
  have hle := HLE.out w1 hw.bel
  go_wp2_with fail
  ((with_reducible refine hle.mono ?_))
  rintro e w2 ⟨rfl, hb⟩
  replace hw := hw.call hb
  clear hle hb hmax
  have hmk := mk_ints (L - M + 1) (by omega) w2
  rw [show (((L - M + 1 : Nat)) : Int) = (L : Int) - M + 1 by omega] at hmk
  go_upto_region 7 with fail
  obtain ⟨g, hg⟩ : ∃ g, g = w2.heap.size := ⟨_, rfl⟩
  have hB : DBx (w2.alloc (.cells (dcl (List.replicate (L - M + 1) 0)).toArray 3)) g (List.replicate (L - M + 1) 0) := Bx.new_at w2 (dcl (List.replicate (L - M + 1) 0)).toArray 3 hg
  have hgw : w.heap.size ≤ g := by rw [hg]; exact hw.siz
  replace hw := hw.alloc (.cells (dcl (List.replicate (L - M + 1) 0)).toArray 3)
  rw [← hg]
  clear hg hmk
  generalize w2.alloc (.cells (dcl (List.replicate (L - M + 1) 0)).toArray 3) = W3 at *
  obtain ⟨b, off, rfl, hb, _⟩ := HX.out.at (i := 0) (by rw [← HL.out]; omega)
  have hlo0 : (0 : Int) ≤ (L : Int) - M + 1 := by omega
  have hlo1 : (L : Int) - M + 1 ≤ L := by omega
  have hlo2 : ((L : Int) - M + 1).toNat = L - M + 1 := by omega
  go_cut [10] (DivS w g (List.replicate (L - M + 1) 0) (D.val (xs.drop (L - M + 1))))
  case first =>
    have hsz := hw.siz
    have HC := Lib.hid (DsAt.cells (DsAt.call HX.out (hw.alloc (.cells #[] 3)).bel) (L - M + 1))
    have HHW := Lib.hid hw
    have HBB := Lib.hid hB
    clear hw hB
    by_cases hcp : c1 = L - M + 1
    · have hLM : L = L - M + 1 := by omega
      have hcpI : (L : Int) - M + 1 = c1 := by omega
      have HLM := Lib.hid hLM
      have HCP := Lib.hid hcp
      have hl0 : L - (L - M + 1) = 0 := by omega
      clear hLM hcp
      go_wp2_with fail
      go_meet
      refine ⟨HHW.out.alloc _, hgw, HBB.out.alloc _, ?_⟩
      have e : xs.drop (L - M + 1) = [] := List.drop_of_length_le (by rw [← HL.out]; have := HLM.out; omega)
      rw [e]
      exact ⟨some ⟨W3.heap.size, 0, none⟩, 0, by rw [show D.val [] = 0 from rfl, D.wd_zero]; rfl, by rw [show D.val [] = 0 from rfl, D.wd_zero]; exact Nat.le_refl _, by decide, fun i hi => absurd hi (by rw [show D.val [] = 0 from rfl, D.wd_zero]; simp), fun h => absurd (by rw [show D.val [] = 0 from rfl, D.wd_zero]) h⟩
    · have hcp2 : ¬ (c1 : Int) = (L : Int) - M + 1 := by omega
      go_wp2_with (at_builtin; go_loud (refine wpList_append_own _ rfl (.tmp 35) (.tmp 39) 41 rfl w.heap.size 3 i0 (.int .i64 0) 1 8 Tryz.underlying41 hi0 hi1 hi2 hi3 rfl (by decide) (.slice (some ⟨W3.heap.size, 0, none⟩) 0 0) 0 [] rfl (own_empty W3 _ hsz) ⟨b, off + (L - M + 1), none⟩ (L - (L - M + 1)) _ (dcl (xs.drop (L - M + 1))) rfl ?b0 ?b1 ?b2 ?b3 ?b4 ?b5 ?_))
      try (case b0 => (simp [dcl]; rw [← HL.out]))
      try (case b1 => exact HC.out)
      try (case b2 => (intro u hu; simp only [dcl, List.mem_map] at hu; obtain ⟨d, _, rfl⟩ := hu; rfl))
      try (case b3 => (simp only [maxLen]; omega))
      try (case b4 => omega)
      try (case b5 => (rw [World.size_alloc]; omega))
      intro v' w4 hown4 hgr _
      have h5 := HHW.out.alloc (.cells #[] 3)
      have hin4 : In w.heap.size w w4 := ⟨h5.bel.grown hgr h5.siz (fun k h => by cases h; exact hsz), Nat.le_trans h5.siz hgr.size⟩
      have hB4 := (HBB.out.alloc (.cells #[] 3)).grown hgr (fun h => by have h1 := HBB.out.lt; have h2 : g = W3.heap.size := Option.some.inj h; omega)
      have hnv : NV w4 v' (D.val (xs.drop (L - M + 1))) := by
        have e : L - (L - M + 1) = (xs.drop (L - M + 1)).length := by rw [List.length_drop, ← HL.out]
        rw [e] at hown4
        obtain ⟨a, cap, h1, h2, h3, h4⟩ := DsAt.own (xs := xs.drop (L - M + 1)) (by  exact hown4)
        have hwd := wd_drop HXW.out (L - M + 1)
        exact ⟨a, cap, by rw [hwd]; exact h1, by rw [hwd]; exact h2, h3, by rw [hwd]; exact h4⟩
      have HFIN : Hid (DivS w g (List.replicate (L - M + 1) 0) (D.val (xs.drop (L - M + 1))) v' w4) := Lib.hid ⟨hin4, hgw, hB4, hnv⟩
      obtain ⟨g9, n9, c9, rfl⟩ : ∃ g9 n9 c9, v' = .slice g9 n9 c9 := by
        rcases hown4.2 with ⟨h9, _⟩ | ⟨g9, c9, cur, h9, _⟩
        · exact ⟨_, _, _, h9⟩
        · exact ⟨_, _, _, h9⟩
      clear hown4 hgr h5 hin4 hB4 hnv
      go_wp2_with fail
      go_meet
      exact HFIN.out
  case rest =>
    rename_i ya0_ ya1_ ya2_ ya3_ ya4_ ya5_ ya6_ ya7_
    revert w m n hn0 i0 hi0 hi1 hi2 hi3 z c1 ya0_ a2 c2 ya1_ ya2_ xs ys HXW HYW L hc1 hs1 M H2 hM0 hlen f t HT HY HDX HDY HL HM HLE HF hfM ya3_ hzI w1 ya4_ w2 ya5_ ya6_ g hgw W3 hB hw b off HX hb ya7_ hlo0 hlo1 hlo2 wc u10 u15 u16 u17 u18 u19 u20 u21 u22 u23 u24 u25 u26 u27 u28 u29 u30 u31 u32 u33 u34 u35 u36 u37 u38 u39 u40 u41 u42 u43 u44 u45 u46 u47 u48 u49 u50 u51 u52 u53 u54 u55 u56 u57 u58 u59 u60 u61 u62 u63 u64 u65 u66 u67 u68 u69 u70 u71 u72 u73 u74 u75 u76 u77 u78 u79 u80 u81 u82 u83 u84 u85 u86 u87 u88 u89 u90 u91 u92 u93 u94 u95 u96 hcut
    exact Kcut.out
  ⟩
set_option maxRecDepth 100000 in
set_option maxHeartbeats 4000000 in
def rdiv_big_q2 : {P : Prop // P → rdiv_big_q1.1} := ⟨_, fun Kcut => by
  replace Kcut : Keep _ := ⟨Kcut⟩
  intro w m n hn0 i0 hi0 hi1 hi2 hi3 z c1 ya0_ a2 c2 ya1_ ya2_ xs ys HXW HYW L hc1 hs1 M H2 hM0 hlen f t HT HY HDX HDY HL HM HLE HF hfM ya3_ hzI w1 ya4_ w2 ya5_ ya6_ g hgw W3 hB hw b off HX hb ya7_ hlo0 hlo1 hlo2 wc u10 u15 u16 u17 u18 u19 u20 u21 u22 u23 u24 u25 u26 u27 u28 u29 u30 u31 u32 u33 u34 u35 u36 u37 u38 u39 u40 u41 u42 u43 u44 u45 u46 u47 u48 u49 u50 u51 u52 u53 u54 u55 u56 u57 u58 u59 u60 u61 u62 u63 u64 u65 u66 u67 u68 u69 u70 u71 u72 u73 u74 u75 u76 u77 u78 u79 u80 u81 u82 u83 u84 u85 u86 u87 u88 u89 u90 u91 u92 u93 u94 u95 u96 hcut
  rename World => wl
  clear hw hB
  obtain ⟨hw, hgw2, hB, hr⟩ := hcut
  obtain ⟨N, hN⟩ : ∃ N, N = L - M + 1 := ⟨_, rfl⟩
  have hNI : (N : Int) = (L : Int) - M + 1 := by omega
  rw [← hN] at hr hB ⊢
  have HN := Lib.hid hN
  have h0 : Hid (D.val (xs.drop N) < n) := Lib.hid (by
    have h1 := drop_lt HDX.out (j := N) (k := M - 1) (by rw [← HL.out]; omega)
    have h2 := wd_ge (n := n) (by rw [← HYW.out, ← HM.out]; exact hM0)
    rw [← HYW.out, ← HM.out] at h2
    omega)
  have HR := Lib.hid hr
  have HB := Lib.hid hB
  have HW := Lib.hid hw
  clear hr hB hw hN hlo0 hlo1 hlo2
  go_wp2_with fail
  go_loopw [8, 10] (fun v8 v10 wr => ∃ (j rv : Nat) (r : Value) (zs : List Nat), v8 = .int .i64 ((j : Int) - 1) ∧ v10 = r ∧ j ≤ N ∧ Hid (zs.length = N) ∧ Hid (D.Digs zs) ∧ In w.heap.size w wr ∧ DBx wr g zs ∧ Hid (NV wr r rv) ∧ Hid (rv < n) ∧ Hid (D.val (xs.drop j) = n * D.val (zs.drop j) + rv)) (fun v8 _ _ => (RowKit.intOf v8 + 1).toNat)
  case atStart => exact ⟨N, _, _, List.replicate N 0, congrArg (Value.int .i64) (by omega), rfl, Nat.le_refl _, Lib.hid List.length_replicate, Lib.hid (D.digs_replicate _), HW.out, HB.out, HR, h0, Lib.hid (by rw [List.drop_of_length_le (l := List.replicate N 0) (by rw [List.length_replicate]; exact Nat.le_refl _)]; show _ = n * 0 + _; omega)⟩
  case round =>
    clear HR HB HW h0
    obtain ⟨j, rv, r, zs, rfl, hrr, hjN, HZL, HZD, hin, hbx, HNV, HRV, HDV⟩ := hrel
    obtain rfl := hrr.symm
    by_cases hj0 : j = 0
    · subst hj0
      have hds := hbx.ds
      have ht := rtrim_any wr (some ⟨g, 0, none⟩) N zs hds HZD.out (by rw [HZL.out]; exact Nat.le_refl _) (by omega)
      rw [HZL.out] at ht
      have hdm : D.val zs = m / n ∧ rv = m % n := by
        have h := HDV.out
        rw [List.drop_zero, List.drop_zero, show D.val xs = m by rw [HXW.out, D.wd_val]] at h
        have h2 := HRV.out
        have h3 : m / n = D.val zs := by
          rw [h, Nat.mul_add_div hn0, Nat.div_eq_of_lt h2, Nat.add_zero]
        refine ⟨h3.symm, ?_⟩
        have h4 := Nat.mul_add_mod n (D.val zs) rv
        rw [← h, Nat.mod_eq_of_lt h2] at h4
        exact h4.symm
      have HDM := Lib.hid hdm
      have HDS := Lib.hid hds
      have HIN := Lib.hid hin
      clear hdm hds hbx hin
      go_wp2_with fail
      ((with_reducible refine ht.mono ?_))
      rintro e w' ⟨hT, rfl⟩
      obtain ⟨v, rfl, hnv⟩ := hT.nv HDS.out (by rw [HZL.out]; exact Nat.le_refl _) (by omega)
      have HNV1 := Lib.hid hnv
      clear hnv hT ht
      go_wp2_with fail
      go_ret2
      have h1 := HNV1.out
      have h2 := HNV.out
      rw [HDM.out.1] at h1
      rw [HDM.out.2] at h2
      exact ⟨_, _, rfl, h1, h2, HIN.out.bel⟩
    · have hj1 : 1 ≤ j := by omega
      rename_i yb0_ yb1_ yb2_ yb3_ yb4_ yb5_ yb6_ yb7_ yb8_ yb9_ yb10_ yb11_ yb12_ yb13_ yb14_ yb15_ yb16_ yb17_ yb18_ yb19_ yb20_ yb21_ yb22_ yb23_ yb24_ yb25_ yb26_ yb27_ yb28_ yb29_ yb30_ yb31_ yb32_ yb33_ yb34_ yb35_ yb36_ yb37_ yb38_ yb39_ yb40_ yb41_ yb42_ yb43_ yb44_ yb45_ yb46_ yb47_ yb48_ yb49_ yb50_ yb51_ yb52_ yb53_ yb54_
      revert w m n hn0 i0 hi0 hi1 hi2 hi3 z c1 ya0_ a2 c2 ya1_ ya2_ xs ys HXW HYW L hc1 hs1 M H2 hM0 hlen f t HT HY HDX HDY HL HM HLE HF hfM ya3_ hzI w1 ya4_ w2 g hgw W3 b off HX hb ya7_ wl u10 u15 u16 u17 u18 u19 u20 u21 u22 u23 u24 u25 u26 u27 u28 u29 u30 u31 u32 u33 u34 u35 u36 u37 u38 u39 u40 yb0_ yb1_ yb2_ yb3_ yb4_ yb5_ yb6_ yb7_ yb8_ yb9_ yb10_ yb11_ yb12_ yb13_ yb14_ yb15_ yb16_ yb17_ yb18_ yb19_ yb20_ yb21_ yb22_ yb23_ yb24_ yb25_ yb26_ yb27_ yb28_ yb29_ yb30_ yb31_ yb32_ yb33_ yb34_ yb35_ yb36_ yb37_ yb38_ yb39_ yb40_ yb41_ yb42_ yb43_ yb44_ yb45_ yb46_ yb47_ yb48_ yb49_ yb50_ yb51_ yb52_ u94 u95 u96 hgw2 N hNI HN yb53_ yb54_ wr u11 u12 u13 u14 u41 u42 u43 u44 u45 u46 u47 u48 u49 u50 u51 u52 u53 u54 u55 u56 u57 u58 u59 u60 u61 u62 u63 u64 u65 u66 u67 u68 u69 u70 u71 u72 u73 u74 u75 u76 u77 u78 u79 u80 u81 u82 u83 u84 u85 u86 u87 u88 u89 u90 u91 u92 u93 j rv r zs hjN HZL HZD hin hbx HNV HRV HDV hrr hj0 hj1
      exact Kcut.out
  ⟩
set_option maxRecDepth 100000 in
set_option maxHeartbeats 4000000 in
def rdiv_big_q3 : {P : Prop // P → rdiv_big_q2.1} := ⟨_, fun Kcut => by
  replace Kcut : Keep _ := ⟨Kcut⟩
  intro w m n hn0 i0 hi0 hi1 hi2 hi3 z c1 ya0_ a2 c2 ya1_ ya2_ xs ys HXW HYW L hc1 hs1 M H2 hM0 hlen f t HT HY HDX HDY HL HM HLE HF hfM ya3_ hzI w1 ya4_ w2 g hgw W3 b off HX hb ya7_ wl u10 u15 u16 u17 u18 u19 u20 u21 u22 u23 u24 u25 u26 u27 u28 u29 u30 u31 u32 u33 u34 u35 u36 u37 u38 u39 u40 yb0_ yb1_ yb2_ yb3_ yb4_ yb5_ yb6_ yb7_ yb8_ yb9_ yb10_ yb11_ yb12_ yb13_ yb14_ yb15_ yb16_ yb17_ yb18_ yb19_ yb20_ yb21_ yb22_ yb23_ yb24_ yb25_ yb26_ yb27_ yb28_ yb29_ yb30_ yb31_ yb32_ yb33_ yb34_ yb35_ yb36_ yb37_ yb38_ yb39_ yb40_ yb41_ yb42_ yb43_ yb44_ yb45_ yb46_ yb47_ yb48_ yb49_ yb50_ yb51_ yb52_ u94 u95 u96 hgw2 N hNI HN yb53_ yb54_ wr u11 u12 u13 u14 u41 u42 u43 u44 u45 u46 u47 u48 u49 u50 u51 u52 u53 u54 u55 u56 u57 u58 u59 u60 u61 u62 u63 u64 u65 u66 u67 u68 u69 u70 u71 u72 u73 u74 u75 u76 u77 u78 u79 u80 u81 u82 u83 u84 u85 u86 u87 u88 u89 u90 u91 u92 u93 j rv r zs hjN HZL HZD hin hbx HNV HRV HDV hrr hj0 hj1
  have hr1 : (0 : Int) ≤ (j : Int) - 1 := by omega
  have hr2 : (j : Int) - 1 < L := by omega
  have ht : ((j : Int) - 1).toNat = j - 1 := by omega
  obtain ⟨b', o', he, hb', hcx⟩ := HX.out.at (i := j - 1) (by rw [← HL.out]; omega)
  simp only [Option.some.injEq, Addr.mk.injEq] at he
  obtain ⟨rfl, rfl, _⟩ := he
  rw [← hin.cell b _ hb'] at hcx
  have hbw : b < wr.heap.size := by have := hin.siz; omega
  obtain ⟨x, hx⟩ : ∃ x, x = xs.getD (j - 1) 0 := ⟨_, rfl⟩
  rw [← hx] at hcx
  have hxl : x < 10000 := by rw [hx]; exact HDX.out.getD _
  have HXX := Lib.hid hx
  obtain ⟨ra, rc, hre, _, _, hds⟩ := HNV.out
  obtain ⟨k0, hk0⟩ : ∃ k, k = (D.wd rv).length := ⟨_, rfl⟩
  rw [← hk0] at hre
  subst hre
  have hk0M : k0 ≤ M := by
    rw [hk0, HM.out, HYW.out]; exact D.wd_mono (Nat.le_of_lt HRV.out)
  have HK0 := Lib.hid hk0
  have HDS := Lib.hid hds
  have HBX := Lib.hid hbx
  have HIN := Lib.hid hin
  have hsz := hin.siz
  have hgl : g + 1 ≤ wr.heap.size := hbx.lt
  clear hx hk0 hds hbx hin
  go_wp2_with (at_builtin; go_loud (refine wpList_append_ds rfl (.tmp 49) (.tmp 50) 41 rfl (g + 1) i0 Tryz.underlying41 hi0 hi1 hi2 hi3 ⟨wr.heap.size, 0, none⟩ 1 1 (dcl [x]) rfl (own_one wr _ x hgl) ra k0 rc (D.wd rv) rfl ?c1 ?c2 ?c3 ?c4 ?_))
  case c1 => exact HK0.out
  case c2 => exact DsAt.call HDS.out ((Below.refl _ _).alloc (Nat.le_refl _) _)
  case c3 => omega
  case c4 => rw [World.size_alloc]; omega
  intro v' w4 hown4 hgr
  have h5 := HIN.out.alloc (.cells #[.int .i64 (x : Nat)] 3)
  have hin4 : In w.heap.size w w4 := ⟨h5.bel.grown hgr h5.siz (fun k h => by cases h; exact hsz), Nat.le_trans h5.siz hgr.size⟩
  have hB4 := (HBX.out.alloc (.cells #[.int .i64 (x : Nat)] 3)).grown hgr (fun h => by have h1 := HBX.out.lt; have h2 : g = wr.heap.size := Option.some.inj h; omega)
  have hel : 1 + k0 = (x :: D.wd rv).length := by rw [List.length_cons, ← HK0.out]; omega
  rw [hel] at hown4
  obtain ⟨a9, c9, hv9, hc9, hm9, hd9, hb9⟩ := DsAt.own2 (xs := x :: D.wd rv) hown4
  have hdg : D.Digs (x :: D.wd rv) := .cons hxl (D.wd_digs rv)
  have hT := rtrim_any w4 a9 c9 (x :: D.wd rv) hd9 hdg hc9 hm9
  rw [← hel] at hT hv9 hc9
  subst hv9
  have HD9 := Lib.hid hd9
  have HC9 : Hid ((x :: D.wd rv).length ≤ c9) := Lib.hid (by rw [← hel]; exact hc9)
  have HI4 := Lib.hid hin4
  have HB4 := Lib.hid hB4
  clear hown4 hgr h5 hin4 hB4 hel hd9 hc9 hdg hcx
  go_wp2_with fail
  ((with_reducible refine hT.mono ?_))
  rintro e w5 ⟨hTT, rfl⟩
  obtain ⟨v, hev, hnv⟩ := hTT.nv HD9.out HC9.out hm9
  obtain ⟨kk, _, hek, _⟩ := hTT
  rw [hek] at hev
  cases hev
  subst hek
  obtain ⟨R, hR⟩ : ∃ R, R = x + 10000 * rv := ⟨_, rfl⟩
  rw [show D.val (x :: D.wd rv) = x + 10000 * rv by show x + 10000 * D.val (D.wd rv) = _; rw [D.wd_val], ← hR] at hnv
  have hRn : R < 10000 * n := by have := HRV.out; omega
  have hRl : (D.wd R).length ≤ M + 1 := by
    refine D.wd_length ?_
    have h1 : n < 10000 ^ M := by
      have h2 := D.val_lt (D.wd_digs n)
      rw [D.wd_val, ← HYW.out, ← HM.out] at h2; exact h2
    rw [Nat.pow_succ]; omega
  have HNR := Lib.hid hnv
  obtain ⟨ra2, rc2, hre2, _, _, hds2⟩ := hnv
  have hab : ∀ q, ra2 = some q → q.block ≠ g := by
    cases hre2
    intro q hq h
    have := hb9 q hq
    omega
  have HAB := Lib.hid hab
  clear hab hb9
  obtain ⟨k2, hk2⟩ : ∃ k, k = (D.wd R).length := ⟨_, rfl⟩
  have HF1 := HF.out
  have hle := fun W (h : In w4.heap.size w4 W) => rlead_any W ra2 rc2 f (D.wd R) (DsAt.call hds2 h.bel) (D.wd_digs R) (by omega) (by omega)
  clear HF1
  obtain ⟨fi, hfi⟩ : ∃ fi, fi = D.val ((D.wd R).drop f) := ⟨_, rfl⟩
  rw [← hk2] at hle hre2 hRl
  rw [← hfi] at hle
  simp only [Value.slice.injEq] at hre2
  obtain ⟨hr1', hr2', hr3'⟩ := hre2
  obtain rfl := hr1'.symm
  obtain rfl := hr2'.symm
  obtain rfl := hr3'.symm
  have HRR := Lib.hid hR
  have HK2 := Lib.hid hk2
  have HFI := Lib.hid hfi
  have hin4 := In.self w4
  have hl4 := hle w4 hin4
  clear hT hds2 hR hk2 hfi hle
  go_wp2_with fail
  ((with_reducible refine hl4.mono ?_))
  rintro e w5 ⟨rfl, hb5⟩
  have HI5 := Lib.hid (hin4.call hb5)
  clear hb5 hl4 hin4
  go_upto_region 12 with fail
  rename_i yc0_ yc1_ yc2_ yc3_ yc4_ yc5_ yc6_ yc7_ yc8_ yc9_ yc10_ yc11_ yc12_
  revert w m n hn0 i0 hi0 hi1 hi2 hi3 z c1 ya0_ a2 c2 ya1_ ya2_ xs ys HXW HYW L hc1 hs1 M H2 hM0 hlen f t HT HY HDX HDY HL HM HLE HF hfM ya3_ hzI w1 ya4_ w2 g hgw W3 b off HX hb ya7_ wl u10 u15 u16 u17 u18 u19 u20 u21 u22 u23 u24 u25 u26 u27 u28 u29 u30 u31 u32 u33 u34 u35 u36 u37 u38 u39 u40 yb0_ yb1_ yb2_ yb3_ yb4_ yb5_ yb6_ yb7_ yb8_ yb9_ yb10_ yb11_ yb12_ yb13_ yb14_ yb15_ yb16_ yb17_ yb18_ yb19_ yb20_ yb21_ yb22_ yb23_ yb24_ yb25_ yb26_ yb27_ yb28_ yb29_ yb30_ yb31_ yb32_ yb33_ yb34_ yb35_ yb36_ yb37_ yb38_ yb39_ yb40_ yb41_ yb42_ yb43_ yb44_ yb45_ yb46_ yb47_ yb48_ yb49_ yb50_ yb51_ yb52_ u94 u95 u96 hgw2 N hNI HN yb53_ yb54_ wr u11 u12 u13 u14 u41 u42 u43 u44 u45 u46 u47 u48 u49 u50 u51 u52 u53 u54 u55 u56 u57 u58 u59 u60 u61 u62 u63 u64 u65 u66 u67 u68 u69 u70 u71 u72 u73 u74 u75 u76 u77 u78 u79 u80 u81 u82 u83 u84 u85 u86 u87 u88 u89 u90 u91 u92 u93 j rv zs hjN HZL HZD HRV HDV hj0 hj1 hr1 hr2 ht hb' yc0_ hbw x hxl HXX ra rc yc1_ yc2_ k0 HNV hk0M HK0 HDS HBX HIN hsz hgl yc3_ yc4_ yc5_ yc6_ w4 HI4 HB4 R hRn ra2 rc2 yc7_ yc8_ HAB k2 hRl fi HD9 yc9_ yc10_ hm9 HC9 HNR HRR HK2 HFI hr1' hr2' hr3' w5 HI5 yc11_ yc12_
  exact Kcut.out
  ⟩
set_option maxRecDepth 100000 in
set_option maxHeartbeats 4000000 in
def rdiv_big_q4 : {P : Prop // P → rdiv_big_q3.1} := ⟨_, fun Kcut => by
  replace Kcut : Keep _ := ⟨Kcut⟩
  intro w m n hn0 i0 hi0 hi1 hi2 hi3 z c1 ya0_ a2 c2 ya1_ ya2_ xs ys HXW HYW L hc1 hs1 M H2 hM0 hlen f t HT HY HDX HDY HL HM HLE HF hfM ya3_ hzI w1 ya4_ w2 g hgw W3 b off HX hb ya7_ wl u10 u15 u16 u17 u18 u19 u20 u21 u22 u23 u24 u25 u26 u27 u28 u29 u30 u31 u32 u33 u34 u35 u36 u37 u38 u39 u40 yb0_ yb1_ yb2_ yb3_ yb4_ yb5_ yb6_ yb7_ yb8_ yb9_ yb10_ yb11_ yb12_ yb13_ yb14_ yb15_ yb16_ yb17_ yb18_ yb19_ yb20_ yb21_ yb22_ yb23_ yb24_ yb25_ yb26_ yb27_ yb28_ yb29_ yb30_ yb31_ yb32_ yb33_ yb34_ yb35_ yb36_ yb37_ yb38_ yb39_ yb40_ yb41_ yb42_ yb43_ yb44_ yb45_ yb46_ yb47_ yb48_ yb49_ yb50_ yb51_ yb52_ u94 u95 u96 hgw2 N hNI HN yb53_ yb54_ wr u11 u12 u13 u14 u41 u42 u43 u44 u45 u46 u47 u48 u49 u50 u51 u52 u53 u54 u55 u56 u57 u58 u59 u60 u61 u62 u63 u64 u65 u66 u67 u68 u69 u70 u71 u72 u73 u74 u75 u76 u77 u78 u79 u80 u81 u82 u83 u84 u85 u86 u87 u88 u89 u90 u91 u92 u93 j rv zs hjN HZL HZD HRV HDV hj0 hj1 hr1 hr2 ht hb' yc0_ hbw x hxl HXX ra rc yc1_ yc2_ k0 HNV hk0M HK0 HDS HBX HIN hsz hgl yc3_ yc4_ yc5_ yc6_ w4 HI4 HB4 R hRn ra2 rc2 yc7_ yc8_ HAB k2 hRl fi HD9 yc9_ yc10_ hm9 HC9 HNR HRR HK2 HFI hr1' hr2' hr3' w5 HI5 yc11_ yc12_
  have hfM2 : f < M := by have := HF.out; omega
  have hf3 : M ≤ f + 3 := by have := HF.out; omega
  have ht0 : 0 < t := by
    rw [HT.out]
    refine Nat.pos_of_ne_zero fun h => ?_
    have h1 := D.val_zero_of_nrm _ (nrm_drop ys f (by rw [HYW.out]; exact D.wd_nrm n)) h
    have h2 := congrArg List.length h1
    rw [List.length_drop, ← HM.out] at h2
    simp at h2; omega
  have ht1 : t < 1000000000000 := by
    rw [HT.out]; have := drop_lt HDY.out (j := f) (k := 3) (by rw [← HM.out]; omega); simpa using this
  have hfi1 : fi < 10000000000000000 := by
    rw [HFI.out]; have := drop_lt (D.wd_digs R) (j := f) (k := 4) (by rw [← HK2.out]; omega); simpa using this
  have hbnd := digit_bounds (P := 10000 ^ f) (f := fi) (t := t) (r := R) (b := n) (by have h := lead_bounds (D.wd_digs R) f; rw [← HFI.out, D.wd_val] at h; exact h) (by have h := lead_bounds HDY.out f; rw [← HT.out, HYW.out, D.wd_val] at h; exact h) ht0
  have hd9 : R / n ≤ 9999 := by
    have h := (Nat.div_lt_iff_lt_mul hn0).2 hRn; omega
  obtain ⟨lo, hlo⟩ : ∃ lo, lo = fi / (t + 1) := ⟨_, rfl⟩
  obtain ⟨hi, hhi⟩ : ∃ hi, hi = min (fi / t) 9999 := ⟨_, rfl⟩
  obtain ⟨q1, hq1⟩ : ∃ q, q = fi / t := ⟨_, rfl⟩
  have hlod : lo ≤ R / n := by rw [hlo]; exact hbnd.1
  have hhid : R / n ≤ hi := by rw [hhi]; exact Nat.le_min.2 ⟨hbnd.2, hd9⟩
  have hhi9 : hi ≤ 9999 := by rw [hhi]; exact Nat.min_le_right _ _
  have hw1 : IntKind.i64.wrap ((t : Int) + 1) = (t : Int) + 1 := IntWalk.i64_in _ (by omega)
  have hz1 : ¬ (t : Int) + 1 = 0 := by omega
  have hz2 : ¬ (t : Int) = 0 := by omega
  have hz3 : ¬ t = 0 := by omega
  have hlo1 : lo ≤ 9999 := by omega
  have hq1l : q1 < 10000000000000000 := by rw [hq1]; exact Nat.lt_of_le_of_lt (Nat.div_le_self _ _) hfi1
  have e1 : Int.tdiv (fi : Int) ((t : Int) + 1) = (lo : Int) := by rw [hlo, show (t : Int) + 1 = ((t + 1 : Nat) : Int) by omega]; exact (Int.ofNat_tdiv _ _).symm
  have e2 : Int.tdiv (fi : Int) (t : Int) = (q1 : Int) := by rw [hq1]; exact (Int.ofNat_tdiv _ _).symm
  have e3 : min (q1 : Int) 9999 = (hi : Int) := by rw [hhi, ← hq1]; omega
  have hw2 : IntKind.i64.wrap (lo : Int) = (lo : Int) := IntWalk.i64_in _ (by omega)
  have hw3 : IntKind.i64.wrap (q1 : Int) = (q1 : Int) := IntWalk.i64_in _ (by omega)
  clear hlo hhi hq1 hbnd
  have h := In.self w5
  have hcc := h.cell
  have hff := h.frozen
  refine wp_region_flow 9 (by kernel_rfl) (by kernel_rfl) (fun _ _ d _ _ h => by cases d <;> exact h) ?_; simp only [List.take_succ_cons, List.take_zero, List.drop_succ_cons, List.drop_zero]; simp only [putAll, Act.put, List.setIfInBounds_toArray, List.set]; (try simp only [Nat.reduceAdd]); (try simp only [Nat.zero_add]); (repeat (first | ((with_reducible refine flow_float (v := ?_) ?_ ?_ ?_); rotate_left 1; (focus (with_reducible rfl)); (focus (intro u w1 hw hd w2; (try simp only [depH] at hd); (try simp only [ext] at hd); (try simp only [extU] at hd); (try simp only [Nat.reduceAdd] at hd); (try simp only [Nat.reduceEqDiff] at hd); (try simp only [reduceIte] at hd); (try simp only [and_true] at hd); (try simp only [true_and] at hd); go_simp; exact rfl))) | ((first | ((with_reducible refine flow_pure0 (v := ?_) ?_ ?_ ?_ ?_); rotate_left 1; (focus (with_reducible rfl)); (focus rfl)) | ((with_reducible refine flow_pureg (v := ?_) (j := ?_) (b := ?_) ?_ ?_ ?_ ?_); rotate_left 3; (focus (with_reducible rfl)); (focus (intro u w1 hw hd; (try simp only [depH] at hd); (try simp only [ext] at hd); (try simp only [extU] at hd); (try simp only [Nat.reduceAdd] at hd); (try simp only [Nat.reduceEqDiff] at hd); (try simp only [reduceIte] at hd); (try simp only [and_true] at hd); (try simp only [true_and] at hd); simp [yielded, hd]; done)))); (focus (intro u w1 hw hd; (try simp only [depH] at hd); (try simp only [ext] at hd); (try simp only [extU] at hd); (try simp only [Nat.reduceAdd] at hd); (try simp only [Nat.reduceEqDiff] at hd); (try simp only [reduceIte] at hd); (try simp only [and_true] at hd); (try simp only [true_and] at hd); have hc' := hw.cell; go_simp; exact rfl))) | ((with_reducible refine flow_skipg (j := ?_) (b := ?_) ?_ ?_ ?_); rotate_left 2; (focus (with_reducible rfl)); (focus (intro u w1 hw hd; (try simp only [depH] at hd); (try simp only [ext] at hd); (try simp only [extU] at hd); (try simp only [Nat.reduceAdd] at hd); (try simp only [Nat.reduceEqDiff] at hd); (try simp only [reduceIte] at hd); (try simp only [and_true] at hd); (try simp only [true_and] at hd); simp [yielded, hd]; done))) | ((with_reducible refine flow_alloc (t := ?_) (zs := ?_) ?_ ?_ ?_ ?_); rotate_left 2; (focus (with_reducible rfl)); (focus rfl); (focus (intro u w1; go_simp; exact rfl)))))
  (try clear hc hf h); intro u w' h ha hdi; replace h := h.ins; (try simp only [World.size_alloc] at h); (try dsimp only at ha); (repeat rw [World.size_alloc] at ha); (try simp only [allH] at ha); (try simp only [ext] at ha); (try simp only [extU] at ha); (try simp only [Nat.reduceAdd] at ha); (try simp only [Nat.reduceEqDiff] at ha); (try simp only [reduceIte] at ha); (try simp only [and_true] at ha); (try simp only [true_and] at ha); have hc := h.cell; have hf := h.frozen
  (try obtain ha := ha); (try dsimp only);  simp only [ha]; clear ha hdi 
  have HIN7 := Lib.hid ((HI4.out.call HI5.out.bel).call h.bel)
  have HB7 := Lib.hid ((HB4.out.call HI5.out.bel).call h.bel)
  have HR7 := Lib.hid ((HNR.out.call HI5.out.bel).call h.bel)
  have HN7 := Lib.hid (H2.out.call HIN7.out.bel)
  clear h hc hf hcc hff hw1 hw2 hw3 e1 e2 e3 hz1 hz2 hz3
  rename World => w7
  go_wp2_with fail
  rename_i yd0_ yd1_
  revert w m n hn0 i0 hi0 hi1 hi2 hi3 z c1 ya0_ a2 c2 ya1_ ya2_ xs ys HXW HYW L hc1 hs1 M H2 hM0 hlen f t HT HY HDX HDY HL HM HLE HF hfM ya3_ hzI w1 ya4_ w2 g hgw W3 b off HX hb ya7_ wl u10 u15 u16 u17 u18 u19 u20 u21 u22 u23 u24 u25 u26 u27 u28 u29 u30 u31 u32 u33 u34 u35 u36 u37 u38 u39 u40 yb0_ yb1_ yb2_ yb3_ yb4_ yb5_ yb6_ yb7_ yb8_ yb9_ yb10_ yb11_ yb12_ yb13_ yb14_ yb15_ yb16_ yb17_ yb18_ yb19_ yb20_ yb21_ yb22_ yb23_ yb24_ yb25_ yb26_ yb27_ yb28_ yb29_ yb30_ yb31_ yb32_ yb33_ yb34_ yb35_ yb36_ yb37_ yb38_ yb39_ yb40_ yb41_ yb42_ yb43_ yb44_ yb45_ yb46_ yb47_ yb48_ yb49_ yb50_ yb51_ yb52_ u94 u95 u96 hgw2 N hNI HN yb53_ yb54_ wr u11 u12 u13 u14 u41 u42 u43 u44 u45 u46 u47 u48 u49 u50 u51 u52 u53 u54 u55 u56 u57 u58 u59 u60 u61 u62 u63 u64 u65 u66 u67 u68 u69 u70 u71 u72 u73 u74 u75 u76 u77 u78 u79 u80 u81 u82 u83 u84 u85 u86 u87 u88 u89 u90 u91 u92 u93 j rv zs hjN HZL HZD HRV HDV hj0 hj1 hr1 hr2 ht hb' yc0_ hbw x hxl HXX ra rc yc1_ yc2_ k0 HNV hk0M HK0 HDS HBX HIN hsz hgl yc3_ yc4_ yc5_ yc6_ w4 HI4 HB4 R hRn ra2 rc2 yc7_ yc8_ HAB k2 hRl fi HD9 yc9_ yc10_ hm9 HC9 HNR HRR HK2 HFI hr1' hr2' hr3' w5 HI5 hfM2 hf3 ht0 ht1 hfi1 hd9 lo hi q1 hlod hhid hhi9 hlo1 hq1l h u w7 HIN7 HB7 HR7 HN7 yd0_ yd1_
  exact Kcut.out
  ⟩
set_option maxRecDepth 100000 in
set_option maxHeartbeats 4000000 in
def rdiv_big_q5 : {P : Prop // P → rdiv_big_q4.1} := ⟨_, fun Kcut => by
  replace Kcut : Keep _ := ⟨Kcut⟩
  intro w m n hn0 i0 hi0 hi1 hi2 hi3 z c1 ya0_ a2 c2 ya1_ ya2_ xs ys HXW HYW L hc1 hs1 M H2 hM0 hlen f t HT HY HDX HDY HL HM HLE HF hfM ya3_ hzI w1 ya4_ w2 g hgw W3 b off HX hb ya7_ wl u10 u15 u16 u17 u18 u19 u20 u21 u22 u23 u24 u25 u26 u27 u28 u29 u30 u31 u32 u33 u34 u35 u36 u37 u38 u39 u40 yb0_ yb1_ yb2_ yb3_ yb4_ yb5_ yb6_ yb7_ yb8_ yb9_ yb10_ yb11_ yb12_ yb13_ yb14_ yb15_ yb16_ yb17_ yb18_ yb19_ yb20_ yb21_ yb22_ yb23_ yb24_ yb25_ yb26_ yb27_ yb28_ yb29_ yb30_ yb31_ yb32_ yb33_ yb34_ yb35_ yb36_ yb37_ yb38_ yb39_ yb40_ yb41_ yb42_ yb43_ yb44_ yb45_ yb46_ yb47_ yb48_ yb49_ yb50_ yb51_ yb52_ u94 u95 u96 hgw2 N hNI HN yb53_ yb54_ wr u11 u12 u13 u14 u41 u42 u43 u44 u45 u46 u47 u48 u49 u50 u51 u52 u53 u54 u55 u56 u57 u58 u59 u60 u61 u62 u63 u64 u65 u66 u67 u68 u69 u70 u71 u72 u73 u74 u75 u76 u77 u78 u79 u80 u81 u82 u83 u84 u85 u86 u87 u88 u89 u90 u91 u92 u93 j rv zs hjN HZL HZD HRV HDV hj0 hj1 hr1 hr2 ht hb' yc0_ hbw x hxl HXX ra rc yc1_ yc2_ k0 HNV hk0M HK0 HDS HBX HIN hsz hgl yc3_ yc4_ yc5_ yc6_ w4 HI4 HB4 R hRn ra2 rc2 yc7_ yc8_ HAB k2 hRl fi HD9 yc9_ yc10_ hm9 HC9 HNR HRR HK2 HFI hr1' hr2' hr3' w5 HI5 hfM2 hf3 ht0 ht1 hfi1 hd9 lo hi q1 hlod hhid hhi9 hlo1 hq1l h u w7 HIN7 HB7 HR7 HN7 yd0_ yd1_
  go_loopw [12, 13, 14] (fun v12 v13 v14 wr => ∃ (l h : Nat), v12 = .int .i64 (l : Nat) ∧ v13 = .int .i64 (h : Nat) ∧ l ≤ R / n ∧ R / n ≤ h ∧ h ≤ 9999 ∧ In w7.heap.size w7 wr) (fun v12 v13 _ _ => (RowKit.intOf v13 - RowKit.intOf v12).toNat)
  case atStart => exact ⟨lo, hi, rfl, rfl, hlod, hhid, hhi9, In.self _⟩
  case round =>
    rename World => wi
    obtain ⟨l, h, rfl, rfl, hl1, hl2, hl3, hwi⟩ := hrel
    by_cases hlh : l < h
    · have hlI : (l : Int) < h := by omega
      obtain ⟨mid, hmid⟩ : ∃ x, x = (l + h + 1) / 2 := ⟨_, rfl⟩
      have hm1 : l < mid := by omega
      have hm2 : mid ≤ h := by omega
      have hmI : ((l : Int) + h + 1) / 2 = (mid : Int) := by omega
      have HN8 := Lib.hid (HN7.out.call hwi.bel)
      have HR8 := Lib.hid (HR7.out.call hwi.bel)
      have c5 := rof_any mid (by omega) wi
      clear hmid
      go_wp2_with fail
      ((with_reducible refine c5.mono ?_))
      rintro e w8 ⟨vm, rfl, hvm, hb8⟩
      have c6 := rmul_any w8 _ vm n mid (HN8.out.call hb8) hvm (by have := HYW.out; rw [← this, ← HM.out]; omega) (by have := D.wd_length (n := mid) (k := 1) (by omega); omega)
      have HR9 := Lib.hid (HR8.out.call hb8)
      have HI9 := Lib.hid (hwi.call hb8)
      obtain ⟨am, cm, hvme, _⟩ := hvm
      obtain ⟨km, hkm⟩ : ∃ k, k = (D.wd mid).length := ⟨_, rfl⟩
      rw [← hkm] at hvme
      subst hvme
      clear hb8 hwi c5 hkm
      go_wp2_with fail
      ((with_reducible refine c6.mono ?_))
      rintro e w9 ⟨vp, rfl, hvp, hb9⟩
      have hpl : (D.wd (n * mid)).length ≤ 1099511627776 := by
        have h1 : n * mid < 10000 ^ (M + 1) := by
          have h2 := D.val_lt (D.wd_digs n)
          rw [D.wd_val, ← HYW.out, ← HM.out] at h2
          rw [Nat.pow_succ]
          exact Nat.mul_lt_mul_of_lt_of_le h2 (by omega) (by decide)
        have := D.wd_length h1; omega
      have c7 := rcmp_any w9 vp _ (n * mid) R hvp (HR9.out.call hb9) hpl
      have HI10 := Lib.hid (HI9.out.call hb9)
      obtain ⟨ap, cp, hvpe, _⟩ := hvp
      obtain ⟨kp, hkp⟩ : ∃ k, k = (D.wd (n * mid)).length := ⟨_, rfl⟩
      rw [← hkp] at hvpe
      subst hvpe
      obtain ⟨cz, hcz⟩ : ∃ z, z = cmpN (n * mid) R := ⟨_, rfl⟩
      rw [← hcz] at c7
      have hmd : mid ≤ R / n ↔ n * mid ≤ R := by rw [Nat.le_div_iff_mul_le hn0, Nat.mul_comm]
      by_cases hle : mid ≤ R / n
      · have hczI : cz ≤ 0 := by
          rw [hcz]; unfold cmpN
          have := hmd.1 hle
          split
          · decide
          · rw [if_neg (by omega)]; exact Int.le_refl _
        clear hb9 c6 hkp hcz hmd hpl
        go_wp2_with fail
        ((with_reducible refine c7.mono ?_))
        rintro e w10 ⟨rfl, hb10⟩
        have HI11 := Lib.hid (HI10.out.call hb10)
        clear hb10 c7
        go_wp2_with fail
        exact ⟨⟨mid, h, by go_num, rfl, hle, hl2, hl3, HI11.out⟩, by simp [RowKit.intOf]; omega⟩
      · have hczI : ¬ cz ≤ 0 := by
          rw [hcz]; unfold cmpN
          have : ¬ n * mid ≤ R := fun h => hle (hmd.2 h)
          rw [if_neg (by omega), if_pos (by omega)]; decide
        clear hb9 c6 hkp hcz hmd hpl
        go_wp2_with fail
        ((with_reducible refine c7.mono ?_))
        rintro e w10 ⟨rfl, hb10⟩
        have HI11 := Lib.hid (HI10.out.call hb10)
        clear hb10 c7
        go_wp2_with fail
        exact ⟨⟨l, mid - 1, rfl, by go_num, hl1, by omega, by omega, HI11.out⟩, by simp [RowKit.intOf]; omega⟩
    · obtain rfl : l = R / n := by omega
      have hlI : ¬ ((R / n : Nat) : Int) < h := by omega
      obtain ⟨d, hd⟩ : ∃ d, d = R / n := ⟨_, rfl⟩
      rw [← hd] at hlI hl2 hd9 ⊢
      have HDD := Lib.hid hd
      clear hd hl1 hlod hhid
      rename_i ye0_ ye1_ ye2_ ye3_ ye4_ ye5_ ye6_ ye7_ ye8_ ye9_ ye10_ ye11_ ye12_ ye13_ ye14_ ye15_ ye16_ ye17_ ye18_ ye19_ ye20_
      revert w m n hn0 i0 hi0 hi1 hi2 hi3 z c1 ya0_ a2 c2 ya1_ ya2_ xs ys HXW HYW L hc1 hs1 M H2 hM0 hlen f t HT HY HDX HDY HL HM HLE HF hfM ya3_ hzI w1 ya4_ w2 g hgw W3 b off HX hb ya7_ wl u10 u15 u16 u17 u18 u19 u20 u21 u22 u23 u24 u25 u26 u27 u28 u29 u30 u31 u32 u33 u34 u35 u36 u37 u38 u39 u40 yb0_ yb1_ yb2_ yb3_ yb4_ yb5_ yb6_ yb7_ yb8_ yb9_ yb10_ yb11_ yb12_ yb13_ yb14_ yb15_ yb16_ yb17_ yb18_ yb19_ yb20_ yb21_ yb22_ yb23_ yb24_ yb25_ yb26_ yb27_ yb28_ yb29_ yb30_ yb31_ yb32_ yb33_ yb34_ yb35_ yb36_ yb37_ yb38_ yb39_ yb40_ yb41_ yb42_ yb43_ yb44_ yb45_ yb46_ yb47_ yb48_ yb49_ yb50_ yb51_ yb52_ u94 u95 u96 hgw2 N hNI HN yb53_ yb54_ wr u11 u12 u13 ye0_ u41 u42 u43 u44 u45 u46 u47 u48 u49 u50 u51 u52 u53 u54 u55 u56 u57 u58 u59 u60 u61 u62 u63 ye1_ ye2_ ye3_ ye4_ ye5_ ye6_ ye7_ ye8_ ye9_ ye10_ ye11_ ye12_ ye13_ ye14_ ye15_ ye16_ ye17_ ye18_ ye19_ u83 u84 u85 u86 u87 u88 u89 u90 u91 u92 u93 j rv zs hjN HZL HZD HRV HDV hj0 hj1 hr1 hr2 ht hb' yc0_ hbw x hxl HXX ra rc yc1_ yc2_ k0 HNV hk0M HK0 HDS HBX HIN hsz hgl yc3_ yc4_ yc5_ yc6_ w4 HI4 HB4 R hRn ra2 rc2 yc7_ yc8_ HAB k2 hRl fi HD9 yc9_ yc10_ hm9 HC9 HNR HRR HK2 HFI hr1' hr2' hr3' w5 HI5 hfM2 hf3 ht0 ht1 hfi1 lo hi q1 hhi9 hlo1 hq1l ye20_ u w7 HIN7 HB7 HR7 HN7 yd0_ yd1_ wi u14 u64 u65 u66 u67 u68 u69 u70 u71 u72 u73 u74 u75 u76 u77 u78 u79 u80 u81 u82 h hl3 hwi hlh d hd9 hl2 hlI HDD
      exact Kcut.out
  ⟩
set_option maxRecDepth 100000 in
set_option maxHeartbeats 4000000 in
theorem rdiv_big_q6 : rdiv_big_q5.1 := by
  intro w m n hn0 i0 hi0 hi1 hi2 hi3 z c1 ya0_ a2 c2 ya1_ ya2_ xs ys HXW HYW L hc1 hs1 M H2 hM0 hlen f t HT HY HDX HDY HL HM HLE HF hfM ya3_ hzI w1 ya4_ w2 g hgw W3 b off HX hb ya7_ wl u10 u15 u16 u17 u18 u19 u20 u21 u22 u23 u24 u25 u26 u27 u28 u29 u30 u31 u32 u33 u34 u35 u36 u37 u38 u39 u40 yb0_ yb1_ yb2_ yb3_ yb4_ yb5_ yb6_ yb7_ yb8_ yb9_ yb10_ yb11_ yb12_ yb13_ yb14_ yb15_ yb16_ yb17_ yb18_ yb19_ yb20_ yb21_ yb22_ yb23_ yb24_ yb25_ yb26_ yb27_ yb28_ yb29_ yb30_ yb31_ yb32_ yb33_ yb34_ yb35_ yb36_ yb37_ yb38_ yb39_ yb40_ yb41_ yb42_ yb43_ yb44_ yb45_ yb46_ yb47_ yb48_ yb49_ yb50_ yb51_ yb52_ u94 u95 u96 hgw2 N hNI HN yb53_ yb54_ wr u11 u12 u13 ye0_ u41 u42 u43 u44 u45 u46 u47 u48 u49 u50 u51 u52 u53 u54 u55 u56 u57 u58 u59 u60 u61 u62 u63 ye1_ ye2_ ye3_ ye4_ ye5_ ye6_ ye7_ ye8_ ye9_ ye10_ ye11_ ye12_ ye13_ ye14_ ye15_ ye16_ ye17_ ye18_ ye19_ u83 u84 u85 u86 u87 u88 u89 u90 u91 u92 u93 j rv zs hjN HZL HZD HRV HDV hj0 hj1 hr1 hr2 ht hb' yc0_ hbw x hxl HXX ra rc yc1_ yc2_ k0 HNV hk0M HK0 HDS HBX HIN hsz hgl yc3_ yc4_ yc5_ yc6_ w4 HI4 HB4 R hRn ra2 rc2 yc7_ yc8_ HAB k2 hRl fi HD9 yc9_ yc10_ hm9 HC9 HNR HRR HK2 HFI hr1' hr2' hr3' w5 HI5 hfM2 hf3 ht0 ht1 hfi1 lo hi q1 hhi9 hlo1 hq1l ye20_ u w7 HIN7 HB7 HR7 HN7 yd0_ yd1_ wi u14 u64 u65 u66 u67 u68 u69 u70 u71 u72 u73 u74 u75 u76 u77 u78 u79 u80 u81 u82 h hl3 hwi hlh d hd9 hl2 hlI HDD
  have hj0' : (0 : Int) ≤ (j : Int) - 1 := by omega
  have hjN' : (j : Int) - 1 < N := by omega
  have hjt : ((j : Int) - 1).toNat = j - 1 := by omega
  have hbx := HB7.out.call hwi.bel
  have hin := HIN7.out.call hwi.bel
  have hnr := HR7.out.call hwi.bel
  have hco := hbx.cell (j - 1)
  rw [dcl_get (by rw [HZL.out]; omega)] at hco
  obtain ⟨oo, hoo⟩ : ∃ o, o = zs.getD (j - 1) 0 := ⟨_, rfl⟩
  rw [← hoo] at hco
  have hfo := hbx.frozen (j - 1)
  have hgl := hbx.lt
  have HB8 : Hid (DBx (wi.setCell ⟨g, j - 1, none⟩ (.int .i64 (d : Nat))) g (zs.set (j - 1) d)) := Lib.hid (by
    have h9 := hbx.set (j - 1) (.int .i64 (d : Nat))
    rw [dcl_set] at h9; exact h9)
  have HI8 := Lib.hid (hin.setCell (p := ⟨g, j - 1, none⟩) hgw (.int .i64 (d : Nat)))
  have HR8 := Lib.hid (hnr.other (p := ⟨g, j - 1, none⟩) HAB.out (.int .i64 (d : Nat)))
  have c5 := rof_any d (by omega) (wi.setCell ⟨g, j - 1, none⟩ (.int .i64 (d : Nat)))
  clear hbx hin hnr hoo
  go_wp2_with fail
  generalize wi.setCell ⟨g, j - 1, none⟩ (.int .i64 (d : Nat)) = W8 at *
  ((with_reducible refine c5.mono ?_))
  rintro e w8 ⟨vm, rfl, hvm, hb8⟩
  have c6 := rmul_any w8 _ vm n d ((H2.out.call HI8.out.bel).call hb8) hvm (by have := HYW.out; rw [← this, ← HM.out]; omega) (by have := D.wd_length (n := d) (k := 1) (by omega); omega)
  have HR9 := Lib.hid (HR8.out.call hb8)
  have HI9 := Lib.hid (HI8.out.call hb8)
  have HB9 := Lib.hid (HB8.out.call hb8)
  obtain ⟨am, cm, hvme, _⟩ := hvm
  obtain ⟨km, hkm⟩ : ∃ k, k = (D.wd d).length := ⟨_, rfl⟩
  rw [← hkm] at hvme
  subst hvme
  clear hb8 c5 hkm
  go_wp2_with fail
  ((with_reducible refine c6.mono ?_))
  rintro e w9 ⟨vp, rfl, hvp, hb9⟩
  have hdR : n * d ≤ R := by rw [HDD.out]; exact Nat.mul_div_le R n
  have c7 := rsub_any w9 _ vp R (n * d) hdR (HR9.out.call hb9) hvp (by rw [← HK2.out]; omega)
  have HI10 := Lib.hid (HI9.out.call hb9)
  have HB10 := Lib.hid (HB9.out.call hb9)
  obtain ⟨ap, cp, hvpe, _⟩ := hvp
  obtain ⟨kp, hkp⟩ : ∃ k, k = (D.wd (n * d)).length := ⟨_, rfl⟩
  rw [← hkp] at hvpe
  subst hvpe
  clear hb9 c6 hkp hdR
  go_wp2_with fail
  ((with_reducible refine c7.mono ?_))
  rintro e w10 ⟨vr, rfl, hvr, hb10⟩
  have HI11 := Lib.hid (HI10.out.call hb10)
  have HB11 := Lib.hid (HB10.out.call hb10)
  have HV11 := Lib.hid hvr
  have HZ11 : Hid ((zs.set (j - 1) d).length = N) := Lib.hid (by rw [List.length_set, HZL.out])
  have HD11 : Hid (D.Digs (zs.set (j - 1) d)) := Lib.hid (HZD.out.set _ _ (by omega))
  have HR11 : Hid (R - n * d < n) := Lib.hid (by
    have h1 := Nat.div_add_mod R n
    have h2 := Nat.mod_lt R hn0
    rw [HDD.out]; omega)
  have HE11 : Hid (D.val (xs.drop (j - 1)) = n * D.val ((zs.set (j - 1) d).drop (j - 1)) + (R - n * d)) := Lib.hid (by
    have h1 := HDV.out
    rw [show j = j - 1 + 1 by omega] at h1
    have h2 := div_round (j := j - 1) (d := d) (by rw [← HL.out]; omega) (by rw [HZL.out]; omega) h1 (by rw [HDD.out, HRR.out, HXX.out])
    rw [← HXX.out, ← HRR.out] at h2; exact h2)
  obtain ⟨ar, cr, hvre, _⟩ := hvr
  obtain ⟨kr, hkr⟩ : ∃ k, k = (D.wd (R - n * d)).length := ⟨_, rfl⟩
  rw [← hkr] at hvre
  subst hvre
  clear hb10 c7 hkr
  go_wp2_with fail
  exact ⟨⟨j - 1, R - n * d, _, zs.set (j - 1) d, by go_num, rfl, by omega, HZ11, HD11, HI11.out, HB11.out, HV11, HR11, HE11⟩, by simp [RowKit.intOf]; omega⟩
set_option maxRecDepth 100000 in
set_option maxHeartbeats 4000000 in
theorem rdiv_big (w : World) (v1 v2 : Value) (m n : Nat) (hmn : n ≤ m) (hn0 : 0 < n) (h1 : NV w v1 m) (h2 : NV w v2 n) (hs1 : (D.wd m).length ≤ 549755813888) :
    Calls Tryz.prog 85 #[v1, v2] w fun e w' => RDiv w m n e w' := (rdiv_big_q1.2 (rdiv_big_q2.2 (rdiv_big_q3.2 (rdiv_big_q4.2 (rdiv_big_q5.2 rdiv_big_q6))))) w v1 v2 m n hmn hn0 h1 h2 hs1
end Gus
end
