/- Proved here: parts of the proof: Rdb Rdc Rdd. Conditions: those that each theorem states. -/
import Derived.Test.YtakblfhmllgepaaGreatDoorFlowCQ
import Derived.Test.YtakblfhmllgepaaGreatDoorPrtBQ
section
/- The reference's numbers: digits in memory; trim, at, Of, Cmp. -/
namespace Gus
open Go Go.RowKit Go.Proofs
theorem D.cut_end {xs : List Nat} (hd : D.Digs xs) {k : Nat} (hk : k ≤ xs.length) (hz : ∀ i, k ≤ i → i < xs.length → xs.getD i 0 = 0) (hl : k = 0 ∨ xs.getD (k - 1) 0 ≠ 0) :
    xs.take k = D.wd (D.val xs) := by
  refine D.eq_wd (hd.take k) (D.nrm_take hk hl) ?_
  exact D.val_take_of_zero xs k hz
/-- digits in memory -/
structure DsAt (w : World) (a : Option Addr) (l : List Nat) : Prop where
  ints : IntsAt w a (l.map Int.ofNat)
  typed : l ≠ [] → ∀ p, a = some p → ∃ cur fz, w.heap[p.block]? = some (Obj.cells cur 3 fz)
instance (w : World) (a : Option Addr) (l : List Nat) : CoeFun (DsAt w a l) (fun _ => ∀ i, i < (l.map Int.ofNat).length → ∃ b off, a = some ⟨b, off, none⟩ ∧ b < w.heap.size ∧ w.cell? ⟨b, off + i, none⟩ = some (.int .i64 ((l.map Int.ofNat).getD i 0))) := ⟨DsAt.ints⟩
theorem DsAt.call {w w' : World} {a : Option Addr} {l : List Nat} (h : DsAt w a l) (hb : Below w.heap.size w w') : DsAt w' a l :=
  ⟨IntsAt.call h.ints hb, fun hl p hp => by obtain ⟨cur, fz, h1⟩ := h.typed hl p hp; exact ⟨cur, fz, by rw [hb.block _ (Array.getElem?_eq_some_iff.1 h1).1]; exact h1⟩⟩
theorem setCell_typed {w : World} {b : Nat} {cur : Array Value} {T : TypeId} {fz : Nat × Nat} (h : w.heap[b]? = some (Obj.cells cur T fz)) (p : Addr) (v : Value) : ∃ cur fz, (w.setCell p v).heap[b]? = some (Obj.cells cur T fz) := by
  unfold World.setCell
  simp only
  rw [Array.getElem?_modify]
  split
  · rw [h]; exact ⟨_, _, rfl⟩
  · exact ⟨_, _, h⟩
theorem DsAt.setTyped {w : World} {a : Option Addr} {l : List Nat} (h : DsAt w a l) (p : Addr) (v : Value) : l ≠ [] → ∀ q, a = some q → ∃ cur fz, (w.setCell p v).heap[q.block]? = some (Obj.cells cur 3 fz) := fun hl q hq => by
  obtain ⟨cur, fz, h1⟩ := h.typed hl q hq
  exact setCell_typed h1 p v
/-- digits stand where another kind of row grows -/
theorem DsAt.grown {w w' : World} {a : Option Addr} {l : List Nat} {g : Nat} {cur : Array Value} {T : TypeId} {fz : Nat × Nat} (h : DsAt w a l) (hg : w.heap[g]? = some (Obj.cells cur T fz)) (hT : T ≠ 3) (hgr : w.grownBy w' (some g)) : DsAt w' a l := by
  have hne : l ≠ [] → ∀ p, a = some p → w'.heap[p.block]? = w.heap[p.block]? := fun hl p hp => by
    obtain ⟨cur2, fz2, h1⟩ := h.typed hl p hp
    refine hgr.block _ (Array.getElem?_eq_some_iff.1 h1).1 (fun e => ?_)
    injection e with e
    rw [e, hg] at h1
    injection h1 with h7
    injection h7 with _ h8
    exact hT h8
  refine ⟨fun i hi => ?_, fun hl p hp => by obtain ⟨c2, f2, h1⟩ := h.typed hl p hp; exact ⟨c2, f2, (hne hl p hp).trans h1⟩⟩
  obtain ⟨b, off, h1, h2, h3⟩ := h i hi
  have hl : l ≠ [] := by intro e; subst e; exact absurd hi (by simp)
  have hbk := hne hl _ h1
  refine ⟨b, off, h1, Nat.lt_of_lt_of_le h2 hgr.size, ?_⟩
  unfold World.cell? at h3 ⊢
  rw [hbk]; exact h3
def TrimP (l : List Nat) (a : Option Addr) (cap : Nat) (e : Ending) : Prop := ∃ k, k ≤ l.length ∧ e = .returned (.slice a k cap) ∧ l.take k = D.wd (D.val l)
set_option maxHeartbeats 400000 in
theorem rtrim_any (w : World) (a : Option Addr) (cap : Nat) (l : List Nat) (hA : DsAt w a l) (hd : D.Digs l) (hc : l.length ≤ cap) (hs : cap ≤ 9223372036854775807) :
    Calls Tryz.prog 92 #[.slice a l.length cap] w fun e w' => TrimP l a cap e ∧ w = w' := by
  have HA := Lib.hid hA
  obtain ⟨n, hn⟩ : ∃ n, n = l.length := ⟨_, rfl⟩
  rw [← hn] at hc ⊢
  have HN := Lib.hid hn
  clear hA hn
  go_enter Tryz.func92, Tryz.ntmps92
  go_wp2
  go_loop [0] (fun v => ∃ k : Nat, k ≤ n ∧ v = .slice a k cap ∧ ∀ i, k ≤ i → i < n → l.getD i 0 = 0) (fun v => match v with | .slice _ n _ => n | _ => 0)
  case atStart => exact ⟨n, Nat.le_refl _, rfl, fun i h1 h2 => by omega⟩
  case round =>
    obtain ⟨k, hk, rfl, hz⟩ := hrel
    have HZ : Hid (∀ i, k ≤ i → i < n → l.getD i 0 = 0) := hz
    clear hz
    by_cases h0 : k = 0
    · subst h0
      go_wp2
      go_ret
      exact ⟨⟨0, Nat.zero_le _, rfl, D.cut_end hd (Nat.zero_le _) (fun i h1 h2 => HZ.out i h1 (by rw [HN.out]; exact h2)) (.inl rfl)⟩, rfl⟩
    · have hk1 : 0 < k := by omega
      have hcell := HA.out (k - 1) (by rw [List.length_map, ← HN.out]; omega)
      obtain ⟨b, off, rfl, hb, hx⟩ := hcell
      rw [List.getD_eq_getElem?_getD, List.getElem?_map, List.getElem?_eq_getElem (by rw [← HN.out]; omega)] at hx
      simp only [Option.map_some, Option.getD_some, Int.ofNat_eq_natCast] at hx
      clear h0
      obtain ⟨x, hx'⟩ : ∃ x, x = l[k - 1]'(by rw [← HN.out]; omega) := ⟨_, rfl⟩
      rw [← hx'] at hx
      have hxg : x = l.getD (k - 1) 0 := by rw [hx', List.getD_eq_getElem?_getD, List.getElem?_eq_getElem (by rw [← HN.out]; omega)]; rfl
      have HXG := Lib.hid hxg
      clear hx' hxg
      by_cases hv : x = 0
      · subst hv
        go_wp2
        refine ⟨⟨k - 1, by omega, rfl, fun i h1 h2 => ?_⟩, by show k - 1 < k; omega⟩
        by_cases hi : i = k - 1
        · rw [hi]; exact HXG.out.symm
        · exact HZ.out i (by omega) h2
      · have hpos : 0 < x := by omega
        have HV := Lib.hid hv
        clear hv
        go_wp2
        go_ret
        exact ⟨⟨k, by rw [← HN.out]; exact hk, rfl, D.cut_end hd (by rw [← HN.out]; exact hk) (fun i h1 h2 => HZ.out i h1 (by rw [HN.out]; exact h2)) (.inr (by rw [← HXG.out]; exact HV.out))⟩, rfl⟩
theorem D.wd_step {r : Nat} (h : r ≠ 0) : D.wd r = r % 10000 :: D.wd (r / 10000) := by
  refine (D.eq_wd (.cons (Nat.mod_lt _ (by decide)) (D.wd_digs _)) ?_ ?_).symm
  · by_cases h1 : r / 10000 = 0
    · rw [h1, D.wd_zero]
      show r % 10000 ≠ 0
      omega
    · have h2 := D.wd_nrm (r / 10000)
      cases hw : D.wd (r / 10000) with
      | nil =>
        have := D.wd_val (r / 10000); rw [hw] at this
        exact absurd this.symm h1
      | cons e l => rw [hw] at h2; exact h2
  · show r % 10000 + 10000 * D.val (D.wd (r / 10000)) = r
    rw [D.wd_val]; omega
/-- a number of the reference in memory -/
def NV (w : World) (v : Value) (n : Nat) : Prop := ∃ a cap, v = .slice a (D.wd n).length cap ∧ (D.wd n).length ≤ cap ∧ cap ≤ 9223372036854775807 ∧ DsAt w a (D.wd n)
theorem NV.call {w w' : World} {v : Value} {n : Nat} (h : NV w v n) (hb : Below w.heap.size w w') : NV w' v n := by
  obtain ⟨a, cap, h1, h2, h3, h4⟩ := h
  exact ⟨a, cap, h1, h2, h3, h4.call hb⟩
def dcl (xs : List Nat) : List Value := xs.map fun (d : Nat) => .int .i64 (d : Int)
/-- digits of one's own, as they are read -/
theorem DsAt.own {w : World} {base : Nat} {v : Value} {xs : List Nat} (h : w.ownsRow base 3 1 v xs.length (dcl xs)) : ∃ a cap, v = .slice a xs.length cap ∧ xs.length ≤ cap ∧ cap ≤ 9223372036854775807 ∧ DsAt w a xs := by
  rcases h.2 with ⟨rfl, hn⟩ | ⟨g, cap, cur, rfl, hb, hg, h1, h2, h3, h4⟩
  · obtain rfl := List.length_eq_zero_iff.1 hn
    exact ⟨none, 0, rfl, Nat.le_refl _, by decide, fun i hi => absurd hi (by simp), fun h => absurd rfl h⟩
  · refine ⟨some ⟨g, 0, none⟩, cap, rfl, h1, h2, fun i hi => ⟨g, 0, rfl, (Array.getElem?_eq_some_iff.1 hg).1, ?_⟩, fun _ p hp => by cases hp; exact ⟨_, _, hg⟩⟩
    rw [List.length_map] at hi
    have e : cur[i]? = (dcl xs)[i]? := by
      rw [← h4, List.getElem?_take, if_pos (by omega)]; simp
    unfold World.cell?
    simp only [hg, Nat.zero_add]
    show cur[i]? = _
    rw [e]
    simp [dcl, List.getElem?_map, List.getD_eq_getElem?_getD, List.getElem?_eq_getElem hi]
def RNat (w : World) (n : Nat) (e : Ending) (w' : World) : Prop := ∃ v, e = .returned v ∧ NV w' v n ∧ Below w.heap.size w w'
theorem rat_any (w : World) (a : Option Addr) (cap i : Nat) (l : List Nat) (hA : DsAt w a l) :
    Calls Tryz.prog 91 #[.slice a l.length cap, .int .i64 (i : Nat)] w fun e w' => e = .returned (.int .i64 (l.getD i 0 : Nat)) ∧ w = w' := by
  by_cases h : i < l.length
  · obtain ⟨b, off, rfl, hb, hx⟩ := hA i (by rw [List.length_map]; exact h)
    rw [List.getD_eq_getElem?_getD, List.getElem?_map, List.getElem?_eq_getElem h] at hx
    simp only [Option.map_some, Option.getD_some, Int.ofNat_eq_natCast] at hx
    obtain ⟨x, hx'⟩ : ∃ x, x = l.getD i 0 := ⟨_, rfl⟩
    rw [show l[i] = x by rw [hx', List.getD_eq_getElem?_getD, List.getElem?_eq_getElem h]; rfl] at hx
    obtain ⟨n, hn⟩ : ∃ n, n = l.length := ⟨_, rfl⟩
    rw [← hn] at h ⊢
    rw [← hx']
    clear hx' hn hA
    have hI : (i : Int) < (n : Int) := by omega
    go_enter Tryz.func91, Tryz.ntmps91
    go_wp2
    go_ret
    exact ⟨rfl, rfl⟩
  · have e : l.getD i 0 = 0 := by rw [List.getD_eq_getElem?_getD, List.getElem?_eq_none (by omega)]; rfl
    rw [e]
    obtain ⟨n, hn⟩ : ∃ n, n = l.length := ⟨_, rfl⟩
    rw [← hn] at h ⊢
    have hI : ¬ (i : Int) < (n : Int) := by omega
    clear hn hA e
    go_enter Tryz.func91, Tryz.ntmps91
    go_wp2
    go_ret
    exact ⟨rfl, rfl⟩
set_option maxRecDepth 100000 in
set_option maxHeartbeats 1000000 in
theorem rof_any (n : Nat) (hn : n < 18446744073709551616) (w : World) :
    Calls Tryz.prog 125 #[.int .u64 (n : Nat)] w fun e w' => RNat w n e w' := by
  obtain ⟨i0, hi0, hi1, hi2, hi3⟩ := info_parts info_int8
  have hlen := D.wd_length (n := n) (k := 5) (by simp only [Nat.reducePow]; omega)
  have HL := Lib.hid hlen
  clear hlen
  go_enter Tryz.func125, Tryz.ntmps125
  go_wp2_with fail
  go_loopw [0, 3] (fun v0 v3 wr => ∃ (r : Nat) (v : Value) (xs : List Nat), r ≤ n ∧ v0 = .int .u64 (r : Nat) ∧ v3 = v ∧ Hid (D.wd n = xs ++ D.wd r) ∧ In w.heap.size w wr ∧ wr.ownsRow w.heap.size 3 1 v xs.length (dcl xs)) (fun v0 _ _ => (RowKit.intOf v0).toNat)
  case atStart => exact ⟨n, _, [], Nat.le_refl _, rfl, rfl, Lib.hid rfl, In.self _, World.ownsRow_nil _ _ _ _⟩
  case round =>
    obtain ⟨r, v3, xs, hr, rfl, hv, hW, hin, hown⟩ := hrel
    obtain rfl := hv.symm
    by_cases h0 : r = 0
    · subst h0
      have HIN := Lib.hid hin
      have HOWN := Lib.hid hown
      clear hin hown
      go_wp2_with fail
      go_ret
      obtain ⟨a, cap, h1, h2, h3, h4⟩ := DsAt.own HOWN.out
      have hW := hW.out
      rw [D.wd_zero, List.append_nil] at hW
      exact ⟨_, rfl, ⟨a, cap, by rw [hW]; exact h1, by rw [hW]; exact h2, h3, by rw [hW]; exact h4⟩, HIN.out.bel⟩
    · have hpos : 0 < r := by omega
      have hrI : (0 : Int) < (r : Int) := by omega
      have HST : Hid (D.wd n = (xs ++ [r % 10000]) ++ D.wd (r / 10000)) := Lib.hid (by rw [hW.out, D.wd_step h0]; simp)
      have hxl : xs.length ≤ 4 := by
        have h1 := HL.out
        rw [hW.out, D.wd_step h0, List.length_append, List.length_cons] at h1; omega
      have HOWN := Lib.hid hown
      have hsz := hin.siz
      clear hown h0
      go_wp2_with (at_builtin; go_loud (refine wpList_append_own _ rfl (.tmp 6) (.tmp 10) 41 rfl w.heap.size 3 i0 (.int .i64 0) 1 8 Tryz.underlying41 hi0 hi1 hi2 hi3 rfl (by decide) v3 xs.length (dcl xs) rfl (HOWN.out.alloc _) ⟨wr.heap.size, 0, none⟩ 1 1 [.int .i64 ((r % 10000 : Nat) : Int)] rfl rfl ?c1 ?c2 ?c3 ?c4 ?c5 ?_))
      case c2 => rfl
      case c3 => simp only [maxLen]; omega
      case c4 => omega
      case c5 => omega
      intro v' w4 hown4 hgr _
      have hin4 : In w.heap.size w w4 := by
        have h5 := hin.alloc (.cells #[.int .i64 (r % 10000)] 3)
        exact ⟨h5.bel.grown hgr h5.siz (fun k h => by
          rcases HOWN.out.2 with ⟨h1, _⟩ | ⟨g, c, cur, h1, h2, _⟩
          · rw [h1] at h; cases h
          · rw [h1] at h; cases h; exact h2), Nat.le_trans h5.siz hgr.size⟩
      have HR4 : Hid (w4.ownsRow w.heap.size 3 1 v' (xs ++ [r % 10000]).length (dcl (xs ++ [r % 10000]))) := Lib.hid (by
        rw [List.length_append]
        have e : dcl (xs ++ [r % 10000]) = dcl xs ++ [.int .i64 ((r : Int) % 10000)] := by simp [dcl]
        rw [e]; exact hown4)
      have HIN4 := Lib.hid hin4
      obtain ⟨g9, c9, rfl⟩ : ∃ g9 c9, v' = .slice (some ⟨g9, 0, none⟩) (xs.length + 1) c9 := by
        rcases hown4.2 with ⟨_, hn⟩ | ⟨g9, c9, cur, h9, _⟩
        · omega
        · exact ⟨g9, c9, h9⟩
      clear hown4 hgr hin4 HOWN hin hsz
      go_wp2_with fail
      exact ⟨⟨r / 10000, _, xs ++ [r % 10000], by omega, by go_num, rfl, HST, HIN4.out, HR4.out⟩, by simp [RowKit.intOf]; omega⟩
theorem DsAt.own2 {w : World} {base : Nat} {v : Value} {xs : List Nat} (h : w.ownsRow base 3 1 v xs.length (dcl xs)) : ∃ a cap, v = .slice a xs.length cap ∧ xs.length ≤ cap ∧ cap ≤ 9223372036854775807 ∧ DsAt w a xs ∧ ∀ p, a = some p → base ≤ p.block := by
  obtain ⟨a, cap, rfl, h1, h2, h3⟩ := DsAt.own h
  refine ⟨a, cap, rfl, h1, h2, h3, fun p hp => ?_⟩
  subst hp
  exact (World.ownsRow.lt h _ rfl).1
theorem DsAt.other {w : World} {a : Option Addr} {l : List Nat} (h : DsAt w a l) {p : Addr} (hne : ∀ q, a = some q → q.block ≠ p.block) (v : Value) : DsAt (w.setCell p v) a l := ⟨fun i hi => by
  obtain ⟨b, off, h1, h2, h3⟩ := h i hi
  refine ⟨b, off, h1, by rw [World.size_setCell]; exact h2, ?_⟩
  rw [← h3]
  exact World.cell?_setCell_other _ _ _ _ (fun e => hne _ h1 (by rw [e])), h.setTyped p v⟩
theorem NV.grown {w w' : World} {v : Value} {n g : Nat} {cur : Array Value} {T : TypeId} {fz : Nat × Nat} (h : NV w v n) (hg : w.heap[g]? = some (Obj.cells cur T fz)) (hT : T ≠ 3) (hgr : w.grownBy w' (some g)) : NV w' v n := by
  obtain ⟨a, cap, h1, h2, h3, h4⟩ := h
  exact ⟨a, cap, h1, h2, h3, h4.grown hg hT hgr⟩
theorem NV.other {w : World} {a : Option Addr} {k c n : Nat} (h : NV w (.slice a k c) n) {p : Addr} (hne : ∀ q, a = some q → q.block ≠ p.block) (v : Value) : NV (w.setCell p v) (.slice a k c) n := by
  obtain ⟨a', c', h1, h2, h3, h4⟩ := h
  cases h1
  exact ⟨a, c, rfl, h2, h3, h4.other hne v⟩
end Gus
end
section
/- The reference's numbers: Cmp. -/
namespace Gus
open Go Go.RowKit Go.Proofs
theorem DsAt.at {w : World} {a : Option Addr} {l : List Nat} (h : DsAt w a l) {i : Nat} (hi : i < l.length) : ∃ b off, a = some ⟨b, off, none⟩ ∧ b < w.heap.size ∧ w.cell? ⟨b, off + i, none⟩ = some (.int .i64 (l.getD i 0 : Nat)) := by
  obtain ⟨b, off, h1, h2, h3⟩ := h i (by rw [List.length_map]; exact hi)
  refine ⟨b, off, h1, h2, h3.trans ?_⟩
  rw [List.getD_eq_getElem?_getD, List.getElem?_map, List.getD_eq_getElem?_getD, List.getElem?_eq_getElem hi]; rfl
theorem ownsRow_cons {w : World} {base : Nat} {T : TypeId} {s : Nat} {v : Value} {n : Nat} {xs : List Value} (h : w.ownsRow base T s v (n + 1) xs) : ∃ g c, v = .slice (some ⟨g, 0, none⟩) (n + 1) c := by
  rcases h.2 with ⟨_, hn⟩ | ⟨g, c, cur, h9, _⟩
  · omega
  · exact ⟨g, c, h9⟩
set_option maxRecDepth 100000 in
set_option maxHeartbeats 400000 in
theorem rcmp_same (w : World) (a1 a2 : Option Addr) (k c1 c2 m n : Nat) (xs ys : List Nat) (hx : DsAt w a1 xs) (hy : DsAt w a2 ys) (h1 : Hid (xs = D.wd m)) (h2 : Hid (ys = D.wd n)) (hk1 : k = xs.length) (hk2 : k = ys.length) (hs : k ≤ 1099511627776) :
    Calls Tryz.prog 90 #[.slice a1 k c1, .slice a2 k c2] w fun e w' => e = .returned (.int .i64 (cmpN m n)) ∧ Below w.heap.size w w' := by
  have HK1 := Lib.hid hk1
  have HK2 := Lib.hid hk2
  clear hk1 hk2
  go_enter Tryz.func90, Tryz.ntmps90
  go_wp2_with fail
  go_loopw [5] (fun v wr => ∃ i : Nat, i ≤ k ∧ v = .int .i64 ((i : Int) - 1) ∧ (∀ j, i ≤ j → j < k → xs.getD j 0 = ys.getD j 0) ∧ DsAt wr a1 xs ∧ DsAt wr a2 ys ∧ Below w.heap.size w wr) (fun v _ => (RowKit.intOf v + 1).toNat)
  case atStart => exact ⟨k, Nat.le_refl _, rfl, fun j h1 h2 => by omega, hx, hy, .refl _ _⟩
  case round =>
    clear hx hy
    obtain ⟨i, hi, rfl, heq, hbx, hby, hbel⟩ := hrel
    have HE : Hid (∀ j, i ≤ j → j < k → xs.getD j 0 = ys.getD j 0) := heq
    clear heq
    have HX := Lib.hid hbx
    have HY := Lib.hid hby
    by_cases h0 : i = 0
    · subst h0
      have hz : cmpN m n = 0 := cmpN_eq (by
        have e : xs = ys := by
          have := D.drop_eq_of (l := xs) (m := ys) (k := k) (i := 0) HK1.out.symm HK2.out.symm (fun j h1 h2 => HE.out j h1 h2)
          simpa using this
        rw [h1.out, h2.out] at e
        rw [← D.wd_val m, ← D.wd_val n, e])
      have HZ := Lib.hid hz
      clear hz hbx hby
      go_wp2_with fail
      go_ret
      exact ⟨by rw [HZ.out]; rfl, hbel⟩
    · have hp : 1 ≤ i := by omega
      obtain ⟨b1, o1, rfl, hb1, hcx⟩ := hbx.at (i := i - 1) (by rw [← HK1.out]; omega)
      obtain ⟨b2, o2, rfl, hb2, hcy⟩ := hby.at (i := i - 1) (by rw [← HK2.out]; omega)
      obtain ⟨p, hp0⟩ : ∃ p, p = xs.getD (i - 1) 0 := ⟨_, rfl⟩
      obtain ⟨q, hq0⟩ : ∃ q, q = ys.getD (i - 1) 0 := ⟨_, rfl⟩
      rw [← hp0] at hcx
      rw [← hq0] at hcy
      have HP := Lib.hid hp0
      have HQ := Lib.hid hq0
      clear hp0 hq0 h0 hbx hby
      have ht : ((i : Int) - 1).toNat = i - 1 := by omega
      have hr1 : (0 : Int) ≤ (i : Int) - 1 := by omega
      have hr2 : ((i : Int) - 1) < k := by omega
      by_cases hpq : p = q
      · subst hpq
        go_wp2_with fail
        (refine wp_region_all (fun w' => w' = wr.drew) (by kernel_rfl) (by kernel_rfl) rfl ?_; (repeat (first | (apply wpQuiet_run; (focus rfl); (focus (rintro _ rfl; go_simp; exact rfl)); (try simp only [Act.put]); (try simp only [List.setIfInBounds_toArray]); (try simp only [List.set])) | (apply wpQuiet_skip; (focus rfl); (try simp only [Act.put]); (try simp only [List.setIfInBounds_toArray]); (try simp only [List.set])))); refine wpQuiet_nil ?_; rintro _ rfl)
        go_wp2_with fail
        (refine wp_region_all (fun w' => w' = wr.drew.drew) (by kernel_rfl) (by kernel_rfl) rfl ?_; (repeat (first | (apply wpQuiet_run; (focus rfl); (focus (rintro _ rfl; go_simp; exact rfl)); (try simp only [Act.put]); (try simp only [List.setIfInBounds_toArray]); (try simp only [List.set])) | (apply wpQuiet_skip; (focus rfl); (try simp only [Act.put]); (try simp only [List.setIfInBounds_toArray]); (try simp only [List.set])))); refine wpQuiet_nil ?_; rintro _ rfl)
        go_wp2_with fail
        refine ⟨⟨i - 1, by omega, by go_num, fun j h1 h2 => ?_, HX.out.call (Below.refl _ _).drew.drew, HY.out.call (Below.refl _ _).drew.drew, hbel.drew.drew⟩, by simp [RowKit.intOf]; omega⟩
        by_cases hj : j = i - 1
        · rw [hj, ← HP.out, ← HQ.out]
        · exact HE.out j (by omega) h2
      · have hlx := HK1.out
        have hly := HK2.out
        have hdr : xs.drop (i - 1 + 1) = ys.drop (i - 1 + 1) := D.drop_eq_of hlx.symm hly.symm (fun j h1 h2 => HE.out j (by omega) h2)
        have hgx := HP.out
        have hgy := HQ.out
        rw [h1.out] at hlx hdr hgx
        rw [h2.out] at hly hdr hgy
        rcases Nat.lt_or_gt_of_ne hpq with hlt | hgt
        · have hc : cmpN m n = -1 := cmpN_lt (by
            have := D.val_lt_at (D.wd_digs m) (i - 1) (by omega) (by omega) hdr (by omega)
            rwa [D.wd_val, D.wd_val] at this)
          have HC := Lib.hid hc
          clear hc hlx hly hdr hgx hgy
          go_wp2_with fail
          (refine wp_region_all (fun w' => w' = wr.drew) (by kernel_rfl) (by kernel_rfl) rfl ?_; (repeat (first | (apply wpQuiet_run; (focus rfl); (focus (rintro _ rfl; go_simp; exact rfl)); (try simp only [Act.put]); (try simp only [List.setIfInBounds_toArray]); (try simp only [List.set])) | (apply wpQuiet_skip; (focus rfl); (try simp only [Act.put]); (try simp only [List.setIfInBounds_toArray]); (try simp only [List.set])))); refine wpQuiet_nil ?_; rintro _ rfl)
          go_wp2_with fail
          go_ret
          exact ⟨by rw [HC.out]; rfl, hbel.drew⟩
        · have hc : cmpN m n = 1 := cmpN_gt (by
            have := D.val_lt_at (D.wd_digs n) (i - 1) (by omega) (by omega) hdr.symm (by omega)
            rwa [D.wd_val, D.wd_val] at this)
          have HC := Lib.hid hc
          clear hc hlx hly hdr hgx hgy
          go_wp2_with fail
          (refine wp_region_all (fun w' => w' = wr.drew) (by kernel_rfl) (by kernel_rfl) rfl ?_; (repeat (first | (apply wpQuiet_run; (focus rfl); (focus (rintro _ rfl; go_simp; exact rfl)); (try simp only [Act.put]); (try simp only [List.setIfInBounds_toArray]); (try simp only [List.set])) | (apply wpQuiet_skip; (focus rfl); (try simp only [Act.put]); (try simp only [List.setIfInBounds_toArray]); (try simp only [List.set])))); refine wpQuiet_nil ?_; rintro _ rfl)
          go_wp2_with fail
          (refine wp_region_all (fun w' => w' = wr.drew.drew) (by kernel_rfl) (by kernel_rfl) rfl ?_; (repeat (first | (apply wpQuiet_run; (focus rfl); (focus (rintro _ rfl; go_simp; exact rfl)); (try simp only [Act.put]); (try simp only [List.setIfInBounds_toArray]); (try simp only [List.set])) | (apply wpQuiet_skip; (focus rfl); (try simp only [Act.put]); (try simp only [List.setIfInBounds_toArray]); (try simp only [List.set])))); refine wpQuiet_nil ?_; rintro _ rfl)
          go_wp2_with fail
          go_ret
          exact ⟨by rw [HC.out]; rfl, hbel.drew.drew⟩
theorem rcmp_any (w : World) (v1 v2 : Value) (m n : Nat) (h1 : NV w v1 m) (h2 : NV w v2 n) (hs1 : (D.wd m).length ≤ 1099511627776) :
    Calls Tryz.prog 90 #[v1, v2] w fun e w' => e = .returned (.int .i64 (cmpN m n)) ∧ Below w.heap.size w w' := by
  obtain ⟨a1, c1, rfl, _, _, hx⟩ := h1
  obtain ⟨a2, c2, rfl, _, _, hy⟩ := h2
  by_cases he : (D.wd m).length = (D.wd n).length
  · have := rcmp_same w a1 a2 (D.wd m).length c1 c2 m n _ _ hx hy (Lib.hid rfl) (Lib.hid rfl) rfl he hs1
    rw [he] at this ⊢; exact this
  · obtain ⟨k1, hk1⟩ : ∃ k, k = (D.wd m).length := ⟨_, rfl⟩
    obtain ⟨k2, hk2⟩ : ∃ k, k = (D.wd n).length := ⟨_, rfl⟩
    rcases Nat.lt_or_gt_of_ne he with h | h
    · have hc := cmpN_lt (D.lt_of_length h)
      rw [hc]
      rw [← hk1] at h hs1 ⊢
      rw [← hk2] at h ⊢
      have hI : (k1 : Int) < (k2 : Int) := by omega
      clear hc he hk1 hk2 hx hy
      go_enter Tryz.func90, Tryz.ntmps90
      go_wp2_with fail
      go_ret
      exact ⟨rfl, .refl _ _⟩
    · have hc := cmpN_gt (D.lt_of_length h)
      rw [hc]
      rw [← hk1] at h hs1 ⊢
      rw [← hk2] at h ⊢
      have hI : (k2 : Int) < (k1 : Int) := by omega
      have hI2 : ¬ (k1 : Int) < (k2 : Int) := by omega
      clear hc he hk1 hk2 hx hy
      go_enter Tryz.func90, Tryz.ntmps90
      go_wp2_with fail
      go_ret
      exact ⟨rfl, .refl _ _⟩
end Gus
end
section
/- The reference's numbers: Add. -/
namespace Gus
open Go Go.RowKit Go.Proofs
theorem DsAt.take {w : World} {a : Option Addr} {l : List Nat} (h : DsAt w a l) (k : Nat) : DsAt w a (l.take k) := ⟨fun i hi => by
  rw [List.length_map, List.length_take] at hi
  obtain ⟨b, off, h1, h2, h3⟩ := h.at (i := i) (by omega)
  refine ⟨b, off, h1, h2, h3.trans ?_⟩
  rw [List.getD_eq_getElem?_getD, List.getD_eq_getElem?_getD, List.getElem?_map, List.getElem?_take, if_pos (by omega), List.getElem?_eq_getElem (by omega)]; rfl, fun hl => h.typed (fun e => hl (by rw [e, List.take_nil]))⟩
/-- what trim leaves is the number -/
theorem TrimP.nv {w : World} {a : Option Addr} {cap : Nat} {l : List Nat} {e : Ending} (h : TrimP l a cap e) (hA : DsAt w a l) (hc : l.length ≤ cap) (hs : cap ≤ 9223372036854775807) : ∃ v, e = .returned v ∧ NV w v (D.val l) := by
  obtain ⟨k, hk, rfl, ht⟩ := h
  have hl : (D.wd (D.val l)).length = k := by rw [← ht, List.length_take]; omega
  refine ⟨_, rfl, a, cap, by rw [hl], by omega, hs, ?_⟩
  rw [← ht]; exact hA.take k
theorem digs_take_ge {l : List Nat} {i : Nat} (h : l.length ≤ i) : D.val (l.take i) = D.val l := by rw [List.take_of_length_le h]
theorem add_digit {x y c : Nat} (hx : x < 10000) (hy : y < 10000) (hc : c ≤ 1) : (x + y + c) / 10000 ≤ 1 := by omega
theorem add_round {zs xs ys : List Nat} {i c s : Nat} (hz : zs.length = i) (hv : D.val zs + 10000 ^ i * c = D.val (xs.take i) + D.val (ys.take i)) (hs : s = xs.getD i 0 + ys.getD i 0 + c) : D.val (zs ++ [s % 10000]) + 10000 ^ (i + 1) * (s / 10000) = D.val (xs.take (i + 1)) + D.val (ys.take (i + 1)) := by
  rw [D.val_snoc, D.val_take_succ, D.val_take_succ, hz, Nat.pow_succ]
  have h := Nat.div_add_mod s 10000
  generalize 10000 ^ i = P at *
  have e : P * s = P * (s % 10000) + P * 10000 * (s / 10000) := by
    conv => lhs; rw [← h]
    rw [Nat.mul_add, Nat.mul_assoc, Nat.add_comm]
  have e2 : P * s = P * xs.getD i 0 + P * ys.getD i 0 + P * c := by rw [hs, Nat.mul_add, Nat.mul_add]
  omega
set_option maxRecDepth 100000 in
set_option maxHeartbeats 2000000 in
theorem radd_any (w : World) (v1 v2 : Value) (m n : Nat) (h1 : NV w v1 m) (h2 : NV w v2 n) (hs1 : (D.wd m).length ≤ 1099511627776) (hs2 : (D.wd n).length ≤ 1099511627776) :
    Calls Tryz.prog 89 #[v1, v2] w fun e w' => RNat w (m + n) e w' := by
  obtain ⟨i0, hi0, hi1, hi2, hi3⟩ := info_parts info_int8
  obtain ⟨a1, c1, rfl, _, _, hx⟩ := h1
  obtain ⟨a2, c2, rfl, _, _, hy⟩ := h2
  obtain ⟨xs, hxs⟩ : ∃ xs, xs = D.wd m := ⟨_, rfl⟩
  obtain ⟨ys, hys⟩ : ∃ ys, ys = D.wd n := ⟨_, rfl⟩
  rw [← hxs] at hx hs1 ⊢
  rw [← hys] at hy hs2 ⊢
  have hdx : ∀ i, xs.getD i 0 < 10000 := fun i => by rw [hxs]; exact (D.wd_digs m).getD i
  have hdy : ∀ i, ys.getD i 0 < 10000 := fun i => by rw [hys]; exact (D.wd_digs n).getD i
  have HMX : Hid (m = D.val xs) := Lib.hid (by rw [hxs, D.wd_val])
  have HNY : Hid (n = D.val ys) := Lib.hid (by rw [hys, D.wd_val])
  obtain ⟨k1, hk1⟩ : ∃ k, k = xs.length := ⟨_, rfl⟩
  obtain ⟨k2, hk2⟩ : ∃ k, k = ys.length := ⟨_, rfl⟩
  have g1 := fun W (h : Below w.heap.size w W) i => rat_any W a1 c1 i xs (DsAt.call hx h)
  have g2 := fun W (h : Below w.heap.size w W) i => rat_any W a2 c2 i ys (DsAt.call hy h)
  rw [← hk1] at hs1 g1 ⊢
  rw [← hk2] at hs2 g2 ⊢
  obtain ⟨K, hK⟩ : ∃ K, K = max k1 k2 := ⟨_, rfl⟩
  have hK1 : k1 ≤ K := by omega
  have hK2 : k2 ≤ K := by omega
  have hK3 : K ≤ 1099511627776 := by omega
  have HG1 := Lib.hid g1
  have HG2 := Lib.hid g2
  have HDX := Lib.hid hdx
  have HDY := Lib.hid hdy
  have HK1 := Lib.hid hk1
  have HK2 := Lib.hid hk2
  clear hxs hys hx hy hdx hdy g1 g2 hk1 hk2 hK
  go_enter Tryz.func89, Tryz.ntmps89
  go_wp2_with fail
  go_loopw [5, 6, 7] (fun v5 v6 v7 wr => ∃ (i c : Nat) (v : Value) (zs : List Nat), v5 = v ∧ v6 = .int .i64 (c : Nat) ∧ v7 = .int .i64 (i : Nat) ∧ c ≤ 1 ∧ (i ≤ K ∨ (i = K + 1 ∧ c = 0)) ∧ Hid (zs.length = i) ∧ Hid (D.Digs zs) ∧ Hid (D.val zs + 10000 ^ i * c = D.val (xs.take i) + D.val (ys.take i)) ∧ In w.heap.size w wr ∧ wr.ownsRow w.heap.size 3 1 v i (dcl zs)) (fun _ _ v7 _ => K + 2 - (RowKit.intOf v7).toNat)
  case atStart => exact ⟨0, 0, _, [], rfl, rfl, rfl, by omega, by omega, Lib.hid rfl, Lib.hid .nil, Lib.hid (by simp [D.val]), In.self _, World.ownsRow_nil _ _ _ _⟩
  case round =>
    obtain ⟨i, c, v5, zs, hv, rfl, rfl, hc, hi, HZL, HZD, HZV, hin, hown⟩ := hrel
    obtain rfl := hv.symm
    have HOWN := Lib.hid hown
    have HIN := Lib.hid hin
    clear hown hin
    obtain ⟨b, hb⟩ : ∃ b, b = decide (i < k1 ∨ i < k2 ∨ 0 < c) := ⟨_, rfl⟩
    have HB := Lib.hid hb
    clear hb
    go_upto_region 4 with fail
    go_cut [22] from 9 to 22 (fun v22 wx => v22 = .bool b ∧ wr = wx)
    case first =>
      by_cases h1 : i < k1
      · have h1I : (i : Int) < k1 := by omega
        have H1 := Lib.hid h1
        go_wp2_with fail
        go_meet
        exact ⟨by rw [HB.out, decide_eq_true (.inl H1.out)], rfl⟩
      · have h1I : ¬ (i : Int) < k1 := by omega
        by_cases h2 : i < k2
        · have h2I : (i : Int) < k2 := by omega
          have H2 := Lib.hid h2
          go_wp2_with fail
          go_meet
          exact ⟨by rw [HB.out, decide_eq_true (.inr (.inl H2.out))], rfl⟩
        · have h2I : ¬ (i : Int) < k2 := by omega
          by_cases h3 : 0 < c
          · have h3I : (0 : Int) < c := by omega
            have H3 := Lib.hid h3
            go_wp2_with fail
            go_meet
            exact ⟨by rw [HB.out, decide_eq_true (.inr (.inr H3.out))], rfl⟩
          · have h3I : ¬ (0 : Int) < c := by omega
            have HN : Hid (¬ (i < k1 ∨ i < k2 ∨ 0 < c)) := Lib.hid (by omega)
            go_wp2_with fail
            go_meet
            exact ⟨by rw [HB.out, decide_eq_false HN.out], rfl⟩
    case rest =>
      obtain ⟨rfl, rfl⟩ := hcut
      rcases b with _ | _
      · have hN : ¬ (i < k1 ∨ i < k2 ∨ 0 < c) := of_decide_eq_false HB.out.symm
        obtain rfl : c = 0 := by omega
        obtain ⟨a, cap, hv5, hcap, hcm, hds⟩ := DsAt.own (v := v5) (xs := zs) (by rw [HZL.out]; exact HOWN.out)
        rw [HZL.out] at hv5
        subst hv5
        have ht := rtrim_any wr a cap zs hds HZD.out hcap hcm
        rw [HZL.out] at ht
        have HDS := Lib.hid hds
        have HCC : Hid (zs.length ≤ cap) := Lib.hid hcap
        have HE : Hid (D.val zs = m + n) := Lib.hid (by
          have h := HZV.out
          rw [digs_take_ge (by rw [← HK1.out]; omega), digs_take_ge (by rw [← HK2.out]; omega)] at h
          rw [HMX.out, HNY.out]; omega)
        clear hN hds hcap
        go_wp2_with fail
        ((with_reducible refine ht.mono ?_))
        rintro e w' ⟨hT, rfl⟩
        obtain ⟨v, rfl, hnv⟩ := hT.nv HDS.out HCC.out hcm
        have HNV := Lib.hid hnv
        clear hnv hT ht
        go_wp2_with fail
        go_ret
        have h := HNV.out
        rw [HE.out] at h
        exact ⟨_, rfl, h, HIN.out.bel⟩
      · have hY : i < k1 ∨ i < k2 ∨ 0 < c := of_decide_eq_true HB.out.symm
        have hiK : i ≤ K := by omega
        have cx := HG1.out wr HIN.out.bel i
        have cy := HG2.out wr HIN.out.bel i
        have hdx := HDX.out i
        have hdy := HDY.out i
        obtain ⟨x, hx⟩ : ∃ x, x = xs.getD i 0 := ⟨_, rfl⟩
        obtain ⟨y, hy⟩ : ∃ y, y = ys.getD i 0 := ⟨_, rfl⟩
        rw [← hx] at cx hdx
        rw [← hy] at cy hdy
        have hc2 : (x + y + c) / 10000 ≤ 1 := add_digit hdx hdy hc
        have hxI : (x : Int) < 10000 := by omega
        have hyI : (y : Int) < 10000 := by omega
        have hcI : (c : Int) ≤ 1 := by omega
        have HV2 := Lib.hid (add_round HZL.out HZV.out (s := x + y + c) (by rw [hx, hy]))
        have HD2 : Hid (D.Digs (zs ++ [(x + y + c) % 10000])) := Lib.hid (HZD.out.append (.cons (Nat.mod_lt _ (by decide)) .nil))
        have hend : i + 1 ≤ K ∨ (i + 1 = K + 1 ∧ (x + y + c) / 10000 = 0) := by
          by_cases h : i + 1 ≤ K
          · exact .inl h
          · refine .inr ⟨by omega, ?_⟩
            have e1 : x = 0 := by rw [hx, List.getD_eq_getElem?_getD, List.getElem?_eq_none (by rw [← HK1.out]; omega)]; rfl
            have e2 : y = 0 := by rw [hy, List.getD_eq_getElem?_getD, List.getElem?_eq_none (by rw [← HK2.out]; omega)]; rfl
            omega
        have HEND := Lib.hid hend
        have hsz := HIN.out.siz
        clear hx hy hend hY
        go_wp2_with fail
        ((with_reducible refine cx.mono ?_))
        rintro e w' ⟨rfl, rfl⟩
        clear cx
        go_wp2_with fail
        ((with_reducible refine cy.mono ?_))
        rintro e w' ⟨rfl, rfl⟩
        clear cy
        go_wp2_with (at_builtin; go_loud (refine wpList_append_own _ rfl (.tmp 34) (.tmp 37) 41 rfl w.heap.size 3 i0 (.int .i64 0) 1 8 Tryz.underlying41 hi0 hi1 hi2 hi3 rfl (by decide) v5 i (dcl zs) rfl (HOWN.out.alloc _) ⟨wr.heap.size, 0, none⟩ 1 1 [.int .i64 (((x : Int) + y + c) % 10000)] rfl rfl ?c1 ?c2 ?c3 ?c4 ?c5 ?_))
        case c1 =>
          intro j u hj
          rw [Addr.add_lit, Nat.zero_add, (Bx.new_at wr #[.int .i64 (((x : Int) + y + c) % 10000)] 3 rfl).cell j]; exact hj
        case c2 =>
          intro u hu
          simp only [List.mem_cons, List.not_mem_nil, or_false] at hu
          subst hu; rfl
        case c3 => simp only [maxLen]; omega
        case c4 => omega
        case c5 => rw [World.size_alloc]; omega
        intro v' w4 hown4 hgr _
        have hin4 : In w.heap.size w w4 := by
          have h5 := HIN.out.alloc (.cells #[.int .i64 (((x : Int) + y + c) % 10000)] 3)
          exact ⟨h5.bel.grown hgr h5.siz (fun k h => by
            rcases HOWN.out.2 with ⟨h1, _⟩ | ⟨g, c, cur, h1, h2, _⟩
            · rw [h1] at h; cases h
            · rw [h1] at h; cases h; exact h2), Nat.le_trans h5.siz hgr.size⟩
        have HR4 : Hid (w4.ownsRow w.heap.size 3 1 v' (i + 1) (dcl (zs ++ [(x + y + c) % 10000]))) := Lib.hid (by
          have e : dcl (zs ++ [(x + y + c) % 10000]) = dcl zs ++ [.int .i64 (((x : Int) + y + c) % 10000)] := by simp [dcl]
          rw [e]; exact hown4)
        have HIN4 := Lib.hid hin4
        have HZ4 : Hid ((zs ++ [(x + y + c) % 10000]).length = i + 1) := Lib.hid (by rw [List.length_append, HZL.out]; rfl)
        obtain ⟨g9, c9, rfl⟩ : ∃ g9 c9, v' = .slice (some ⟨g9, 0, none⟩) (i + 1) c9 := by
          rcases hown4.2 with ⟨_, hn⟩ | ⟨g9, c9, cur, h9, _⟩
          · omega
          · exact ⟨g9, c9, h9⟩
        clear hown4 hgr hin4 HOWN HIN hsz
        go_wp2_with fail
        exact ⟨⟨i + 1, (x + y + c) / 10000, _, _, rfl, by go_num, by go_num, hc2, HEND.out, HZ4, HD2, HV2, HIN4.out, HR4.out⟩, by simp [RowKit.intOf]; omega⟩
end Gus
end
