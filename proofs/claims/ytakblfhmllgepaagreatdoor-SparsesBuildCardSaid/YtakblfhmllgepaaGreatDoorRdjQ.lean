/- Proved here: parts of the proof: Rdj Pad Rdk Rdl Rdm Rdn. Conditions: those that each theorem states. -/
import Derived.Test.YtakblfhmllgepaaGreatDoorRdhQ
import Derived.Test.YtakblfhmllgepaaGreatDoorShelfUQ
section
/- The reference's numbers: Gcd. -/
namespace Gus
open Go Go.RowKit Go.Proofs
theorem rdiv_any (w : World) (v1 v2 : Value) (m n : Nat) (hn0 : 0 < n) (h1 : NV w v1 m) (h2 : NV w v2 n) (hs1 : (D.wd m).length ≤ 549755813888) :
    Calls Tryz.prog 85 #[v1, v2] w fun e w' => RDiv w m n e w' := by
  by_cases h : m < n
  · exact rdiv_small w v1 v2 m n h h1 h2 (by omega)
  · exact rdiv_big w v1 v2 m n (by omega) hn0 h1 h2 hs1
theorem wd_len_pos {n : Nat} : 0 < (D.wd n).length ↔ 0 < n := by
  cases h : D.wd n with
  | nil => have := D.wd_val n; rw [h] at this; simp; exact this.symm
  | cons d l =>
    refine ⟨fun _ => Nat.pos_of_ne_zero fun e => ?_, fun _ => by simp⟩
    rw [e, D.wd_zero] at h; cases h
theorem NV.uniq {w : World} {v : Value} {m n : Nat} (h1 : NV w v m) (h2 : NV w v n) : m = n := by
  obtain ⟨a, c, rfl, _, _, h3⟩ := h1
  obtain ⟨a', c', he, _, _, h4⟩ := h2
  simp only [Value.slice.injEq] at he
  obtain ⟨rfl, hl, _⟩ := he
  have e : D.wd m = D.wd n := List.ext_getElem hl fun i g1 g2 => by
    obtain ⟨b, o, rfl, _, h5⟩ := h3.at g1
    obtain ⟨b', o', he, _, h6⟩ := h4.at g2
    simp only [Option.some.injEq, Addr.mk.injEq] at he
    obtain ⟨rfl, rfl, _⟩ := he
    rw [h5] at h6
    simp only [Option.some.injEq, Value.int.injEq, true_and, Int.natCast_inj] at h6
    rwa [List.getD_eq_getElem?_getD, List.getElem?_eq_getElem g1, List.getD_eq_getElem?_getD, List.getElem?_eq_getElem g2] at h6
  rw [← D.wd_val m, ← D.wd_val n, e]
open Classical in
/-- the number that a value is, for measures -/
noncomputable def nvOf (w : World) (v : Value) : Nat := if h : ∃ n, NV w v n then h.choose else 0
theorem nvOf_eq {w : World} {v : Value} {n : Nat} (h : NV w v n) : nvOf w v = n := by
  unfold nvOf
  have hh : ∃ n, NV w v n := ⟨n, h⟩
  rw [dif_pos hh]
  exact hh.choose_spec.uniq h
set_option maxRecDepth 100000 in
set_option maxHeartbeats 1000000 in
theorem rgcd_any (w : World) (v1 v2 : Value) (m n : Nat) (h1 : NV w v1 m) (h2 : NV w v2 n) (hs1 : (D.wd m).length ≤ 549755813888) (hs2 : (D.wd n).length ≤ 549755813888) :
    Calls Tryz.prog 84 #[v1, v2] w fun e w' => RNat w (Nat.gcd m n) e w' := by
  have H1 := Lib.hid h1
  have H2 := Lib.hid h2
  have HS1 := Lib.hid hs1
  have HS2 := Lib.hid hs2
  clear h1 h2 hs1 hs2
  go_enter Tryz.func84, Tryz.ntmps84
  go_wp2_with fail
  go_loopw [0, 1] (fun v0 v1 wr => ∃ (x y : Nat) (a b : Value), v0 = a ∧ v1 = b ∧ Hid (Nat.gcd x y = Nat.gcd m n) ∧ In w.heap.size w wr ∧ Hid (NV wr a x) ∧ Hid (NV wr b y) ∧ Hid ((D.wd x).length ≤ 549755813888) ∧ Hid ((D.wd y).length ≤ 549755813888)) (fun _ v1 wr => nvOf wr v1)
  case atStart => exact ⟨m, n, _, _, rfl, rfl, Lib.hid rfl, In.self _, H1, H2, HS1, HS2⟩
  case round =>
    clear H1 H2 HS1 HS2
    obtain ⟨x, y, a, b, hva, hvb, HG, hin, HA, HB, HX, HY⟩ := hrel
    have hrb := HB.out
    obtain ⟨ab, cb, hbe, _⟩ := hrb
    obtain ⟨k, hk⟩ : ∃ k, k = (D.wd y).length := ⟨_, rfl⟩
    rw [← hk] at hbe
    subst hbe
    subst hvb
    obtain rfl := hva.symm
    by_cases hy : y = 0
    · have hk0 : k = 0 := by rw [hk, hy, D.wd_zero]; rfl
      have HY0 := Lib.hid hy
      have HIN := Lib.hid hin
      subst hk0
      clear hk hy hin
      go_wp2_with fail
      go_ret
      have h := HG.out
      rw [HY0.out, Nat.gcd_zero_right] at h
      exact ⟨_, rfl, h ▸ HA.out, HIN.out.bel⟩
    · have hy0 : 0 < y := by omega
      have hk0 : 0 < k := by rw [hk]; exact wd_len_pos.2 hy0
      have hkI : (0 : Int) < k := by omega
      have c5 := rdiv_any wr _ _ x y hy0 HA.out HB.out HX.out
      have HM : Hid (nvOf wr (.slice ab k cb) = y) := Lib.hid (nvOf_eq HB.out)
      have HYL : Hid (x % y < y) := Lib.hid (Nat.mod_lt _ hy0)
      have HR2 : Hid ((D.wd (x % y)).length ≤ 549755813888) := Lib.hid (Nat.le_trans (D.wd_mono (Nat.le_of_lt HYL.out)) HY.out)
      have HG2 : Hid (Nat.gcd y (x % y) = Nat.gcd m n) := Lib.hid (by rw [← HG.out, Nat.gcd_comm x y]; exact (Nat.gcd_rec y x).symm ▸ (Nat.gcd_comm _ _))
      clear hk hy
      go_wp2_with fail
      ((with_reducible refine c5.mono ?_))
      rintro e w5 ⟨q, r, rfl, hq, hr, hb5⟩
      have HB5 := Lib.hid (HB.out.call hb5)
      have HR5 := Lib.hid hr
      have HI5 := Lib.hid (hin.call hb5)
      obtain ⟨aq, cq, hqe, _⟩ := hq
      obtain ⟨ar, cr, hre, _⟩ := hr
      obtain ⟨kq, hkq⟩ : ∃ k, k = (D.wd (x / y)).length := ⟨_, rfl⟩
      obtain ⟨kr, hkr⟩ : ∃ k, k = (D.wd (x % y)).length := ⟨_, rfl⟩
      rw [← hkq] at hqe
      rw [← hkr] at hre
      subst hqe hre
      clear hb5 c5 hkq hkr hin
      go_wp2_with fail
      exact ⟨⟨y, x % y, _, _, rfl, rfl, HG2, HI5.out, HB5, HR5, HY, HR2⟩, by rw [HM.out, nvOf_eq HR5.out]; exact HYL.out⟩
end Gus
end
section
/- Decimal digits, padded. -/
namespace Gus
open Go Go.RowKit Go.Proofs
theorem dec_small {u : Nat} (h : u < 10) : Lib.decDigits u = [UInt8.ofNat (48 + u)] := by rw [Lib.decDigits, dif_pos h]
theorem dec_big {u : Nat} (h : ¬ u < 10) : Lib.decDigits u = Lib.decDigits (u / 10) ++ [UInt8.ofNat (48 + u % 10)] := by rw [Lib.decDigits, dif_neg h]
/-- the last j decimal digits of v -/
def pad : Nat → Nat → List UInt8
  | 0, _ => []
  | j + 1, v => pad j (v / 10) ++ [UInt8.ofNat (48 + v % 10)]
theorem pad_cons : ∀ (j v c : Nat), v < 10 ^ j → c < 10 → pad (j + 1) (v + 10 ^ j * c) = UInt8.ofNat (48 + c) :: pad j v
  | 0, v, c, hv, hc => by
    have : v = 0 := by simpa using hv
    subst this
    simp [pad, Nat.mod_eq_of_lt hc]
  | j + 1, v, c, hv, hc => by
    have e0 : 10 ^ (j + 1) * c = 10 * (10 ^ j * c) := by rw [Nat.pow_succ, Nat.mul_comm (10 ^ j) 10, Nat.mul_assoc]
    have h1 : (v + 10 ^ (j + 1) * c) / 10 = v / 10 + 10 ^ j * c := by rw [e0]; omega
    have h2 : (v + 10 ^ (j + 1) * c) % 10 = v % 10 := by rw [e0]; omega
    have h3 : v / 10 < 10 ^ j := by rw [Nat.pow_succ] at hv; omega
    show pad (j + 1) ((v + 10 ^ (j + 1) * c) / 10) ++ [UInt8.ofNat (48 + (v + 10 ^ (j + 1) * c) % 10)] = _
    rw [h1, h2, pad_cons j _ c h3 hc]
    rfl
theorem pad_dec : ∀ (j n : Nat), 10 ^ j ≤ n → n < 10 ^ (j + 1) → pad (j + 1) n = Lib.decDigits n
  | 0, n, h1, h2 => by
    have h3 : n < 10 := by simpa using h2
    rw [dec_small h3]
    simp [pad, Nat.mod_eq_of_lt h3]
  | j + 1, n, h1, h2 => by
    have hp : 1 ≤ 10 ^ j := Nat.pow_pos (by decide)
    rw [Nat.pow_succ] at h1 h2
    rw [dec_big (by omega), ← pad_dec j (n / 10) (by omega) (by omega)]
    rfl
/-- the last j digits of a number, whatever lies ahead -/
theorem pad_mod : ∀ (j v : Nat), pad j (v % 10 ^ j) = pad j v
  | 0, _ => rfl
  | j + 1, v => by
    show pad j (v % 10 ^ (j + 1) / 10) ++ [UInt8.ofNat (48 + v % 10 ^ (j + 1) % 10)] = pad j (v / 10) ++ [UInt8.ofNat (48 + v % 10)]
    have e1 : v % 10 ^ (j + 1) / 10 = v / 10 % 10 ^ j := by
      rw [Nat.pow_succ, Nat.mul_comm, Nat.mod_mul_right_div_self]
    have e2 : v % 10 ^ (j + 1) % 10 = v % 10 := Nat.mod_mod_of_dvd _ ⟨10 ^ j, by rw [Nat.pow_succ, Nat.mul_comm]⟩
    rw [e1, e2, pad_mod j]
theorem pad_length : ∀ (j v : Nat), (pad j v).length = j
  | 0, _ => rfl
  | j + 1, v => by show (pad j (v / 10) ++ [_]).length = _; rw [List.length_append, pad_length j]; rfl
/-- a number's digits: those of its head, then j padded ones -/
theorem dec_pad : ∀ (j v : Nat), 0 < v / 10 ^ j → Lib.decDigits v = Lib.decDigits (v / 10 ^ j) ++ pad j v
  | 0, v, _ => by simp [pad]
  | j + 1, v, h => by
    have e : v / 10 ^ (j + 1) = v / 10 / 10 ^ j := by rw [Nat.pow_succ, Nat.mul_comm, Nat.div_div_eq_div_mul]
    have hv : ¬ v < 10 := fun hv => by rw [e, Nat.div_eq_of_lt hv, Nat.zero_div] at h; exact absurd h (Nat.lt_irrefl _)
    rw [dec_big hv, e, dec_pad j (v / 10) (by rw [← e]; exact h), List.append_assoc]
    rfl
theorem pad_zero : ∀ j, pad j 0 = List.replicate j 48
  | 0 => rfl
  | j + 1 => by
    show pad j 0 ++ [_] = _
    rw [pad_zero j, List.replicate_succ']; rfl
/-- zeros ahead of the digits -/
theorem pad_repeat : ∀ (j r : Nat), r < 10 ^ (j + 1) → (Lib.decDigits r).length ≤ j + 1 ∧ pad (j + 1) r = List.replicate (j + 1 - (Lib.decDigits r).length) 48 ++ Lib.decDigits r
  | 0, r, h => by
    have hr : r < 10 := by simpa using h
    rw [dec_small hr]
    simp [pad, Nat.mod_eq_of_lt hr]
  | j + 1, r, h => by
    by_cases hr : r < 10
    · rw [dec_small hr]
      refine ⟨by simp, ?_⟩
      show pad (j + 1) (r / 10) ++ [UInt8.ofNat (48 + r % 10)] = _
      rw [Nat.div_eq_of_lt hr, pad_zero, Nat.mod_eq_of_lt hr]
      rfl
    · obtain ⟨h1, h2⟩ := pad_repeat j (r / 10) (by rw [Nat.pow_succ] at h; omega)
      rw [dec_big hr]
      refine ⟨by rw [List.length_append]; simp; omega, ?_⟩
      show pad (j + 1) (r / 10) ++ [UInt8.ofNat (48 + r % 10)] = _
      rw [h2, List.length_append, List.append_assoc, List.length_singleton, show j + 1 + 1 - ((Lib.decDigits (r / 10)).length + 1) = j + 1 - (Lib.decDigits (r / 10)).length by omega]
end Gus
end
section
/- The reference's texts: digits. -/
namespace Gus
open Go Go.RowKit Go.Proofs
theorem enc_digit (d : Nat) (h : d < 10) : Utf8.encode (48 + (d : Int)) = ⟨[UInt8.ofNat (48 + d)].toArray⟩ := by
  have : d = 0 ∨ d = 1 ∨ d = 2 ∨ d = 3 ∨ d = 4 ∨ d = 5 ∨ d = 6 ∨ d = 7 ∨ d = 8 ∨ d = 9 := by omega
  rcases this with rfl | rfl | rfl | rfl | rfl | rfl | rfl | rfl | rfl | rfl <;> decide +kernel
def DgR (n : Nat) (v0 v3 : Value) : Prop := ∃ (k : Nat) (l : List UInt8), v0 = .int .i64 (k : Nat) ∧ v3 = strV l ∧ k ≤ n ∧ Hid ((k = n ∧ l = []) ∨ (0 < k ∧ natT n = natT k ++ l)) ∧ l.length + k ≤ n
set_option maxRecDepth 100000 in
set_option maxHeartbeats 1000000 in
theorem rdigits_any (w : World) (n : Nat) (hn : n ≤ 1099511627776) :
    Calls Tryz.prog 39 #[.int .i64 (n : Nat)] w fun e w' => e = .returned (strV (natT n)) ∧ w = w' := by
  go_enter Tryz.func39, Tryz.ntmps39
  go_wp2_with fail
  go_loop [0, 3] (DgR n) (fun v0 _ => (RowKit.intOf v0).toNat)
  case atStart => exact ⟨n, [], rfl, rfl, Nat.le_refl _, Lib.hid (.inl ⟨rfl, rfl⟩), by simp⟩
  case round =>
    obtain ⟨k, l, rfl, rfl, hk, HL, hll⟩ := hrel
    have hen := enc_digit (k % 10) (Nat.mod_lt _ (by decide))
    rw [show ((k % 10 : Nat) : Int) = (k : Int) % 10 by omega] at hen
    obtain ⟨c, hc⟩ : ∃ c, c = UInt8.ofNat (48 + k % 10) := ⟨_, rfl⟩
    rw [← hc] at hen
    have hsz : ¬ 9223372036854775807 < 1 + l.length := by omega
    have HC := Lib.hid hc
    have HCat := Lib.hid (bcat [c] l)
    clear hc
    by_cases h : k < 10
    · have hI : (k : Int) / 10 = 0 := by omega
      have HF : Hid (natT n = [c] ++ l) := Lib.hid (by
        have hd : natT k = [c] := by rw [HC.out, Nat.mod_eq_of_lt h]; exact dec_small h
        rcases HL.out with ⟨h1, h2⟩ | ⟨_, h2⟩
        · rw [← h1, h2, hd]; rfl
        · rw [h2, hd])
      go_wp2_with fail
      go_ret
      exact ⟨str_eq (by rw [HF.out]; exact HCat.out), rfl⟩
    · have hk0 : 0 < k / 10 := by omega
      have HF : Hid ((k / 10 = n ∧ c :: l = []) ∨ (0 < k / 10 ∧ natT n = natT (k / 10) ++ (c :: l))) := Lib.hid (.inr ⟨hk0, by
        have hd : natT k = natT (k / 10) ++ [c] := by rw [HC.out]; exact dec_big h
        rcases HL.out with ⟨h1, h2⟩ | ⟨_, h2⟩
        · rw [← h1, h2, hd]
        · rw [h2, hd, List.append_assoc]; rfl⟩)
      have H1 : Hid (k / 10 < k) := Lib.hid (by omega)
      have H2 : Hid (k / 10 ≤ n) := Lib.hid (by omega)
      have H3 : Hid (l.length + 1 + k / 10 ≤ n) := Lib.hid (by omega)
      have hkI : (k : Int) ≤ 1099511627776 := by omega
      have hq : ((k : Int) / 10 == 0) = false := by rw [beq_eq_false_iff_ne]; omega
      clear hk0 h hll
      go_upto_region 4 with fail
      go_wp2_with fail
      refine ⟨⟨k / 10, c :: l, rfl, congrArg Value.string HCat.out, H2.out, HF, by rw [List.length_cons]; exact H3.out⟩, by simp [RowKit.intOf]; exact H1.out⟩
end Gus
end
section
/- The reference's integers: From, Sign. -/
namespace Gus
open Go Go.RowKit Go.Proofs
set_option maxRecDepth 100000 in
set_option maxHeartbeats 1000000 in
theorem zfrom_raw (w : World) (neg : Bool) (a : Option Addr) (k cap : Nat) (hk : k ≤ 4611686018427387904) :
    Calls Tryz.prog 86 #[.bool neg, .slice a k cap] w fun e w' => e = .returned (.agg #[.bool (neg && decide (0 < k)), .slice a k cap]) ∧ Below w.heap.size w w' := by
  cases neg with
  | false =>
    go_enter Tryz.func86, Tryz.ntmps86
    go_wp2_with fail
    have h := In.self w
    exact bodyPost_ret (v := .agg #[.bool false, .slice a k cap]) (by simp [results, Tryz.results86, go_sem, *]) rfl ⟨rfl, by (refine In.bel ?_; (repeat (first | (refine In.setCell ?_ (by first | omega | (simp; done) | (simp; omega)) _) | (refine In.alloc ?_ _) | (refine In.drew ?_))); (first | exact In.self _ | (refine In.out h ?_ (by first | omega | (simp; done) | (simp; omega)); (repeat (first | (refine In.setCell ?_ (by first | omega | (simp; done) | (simp; omega)) _) | (refine In.alloc ?_ _) | (refine In.drew ?_))); exact In.self _)))⟩
  | true =>
    by_cases h0 : 0 < k
    · have hI : (0 : Int) < k := by omega
      rw [decide_eq_true h0]
      go_enter Tryz.func86, Tryz.ntmps86
      go_wp2_with fail
      have h := In.self w
      exact bodyPost_ret (v := .agg #[.bool true, .slice a k cap]) (by simp [results, Tryz.results86, go_sem, *]) rfl ⟨rfl, by (refine In.bel ?_; (repeat (first | (refine In.setCell ?_ (by first | omega | (simp; done) | (simp; omega)) _) | (refine In.alloc ?_ _) | (refine In.drew ?_))); (first | exact In.self _ | (refine In.out h ?_ (by first | omega | (simp; done) | (simp; omega)); (repeat (first | (refine In.setCell ?_ (by first | omega | (simp; done) | (simp; omega)) _) | (refine In.alloc ?_ _) | (refine In.drew ?_))); exact In.self _)))⟩
    · have hI : ¬ (0 : Int) < k := by omega
      rw [decide_eq_false h0]
      go_enter Tryz.func86, Tryz.ntmps86
      go_wp2_with fail
      have h := In.self w
      exact bodyPost_ret (v := .agg #[.bool false, .slice a k cap]) (by simp [results, Tryz.results86, go_sem, *]) rfl ⟨rfl, by (refine In.bel ?_; (repeat (first | (refine In.setCell ?_ (by first | omega | (simp; done) | (simp; omega)) _) | (refine In.alloc ?_ _) | (refine In.drew ?_))); (first | exact In.self _ | (refine In.out h ?_ (by first | omega | (simp; done) | (simp; omega)); (repeat (first | (refine In.setCell ?_ (by first | omega | (simp; done) | (simp; omega)) _) | (refine In.alloc ?_ _) | (refine In.drew ?_))); exact In.self _)))⟩
/-- an integer of the reference in memory -/
def ZV (w : World) (v : Value) (z : Int) : Prop := ∃ u, v = .agg #[.bool (decide (z < 0)), u] ∧ NV w u z.natAbs
theorem ZV.call {w w' : World} {v : Value} {z : Int} (h : ZV w v z) (hb : Below w.heap.size w w') : ZV w' v z := by
  obtain ⟨u, h1, h2⟩ := h
  exact ⟨u, h1, h2.call hb⟩
theorem zfrom_any (w : World) (neg : Bool) (u : Value) (n : Nat) (h : NV w u n) (hl : (D.wd n).length ≤ 4611686018427387904) :
    Calls Tryz.prog 86 #[.bool neg, u] w fun e w' => (∃ v, e = .returned v ∧ ZV w' v (if neg then -(n : Int) else n)) ∧ Below w.heap.size w w' := by
  have hh := h
  obtain ⟨a, c, rfl, _⟩ := h
  refine (zfrom_raw w neg a _ c hl).mono fun e w' ⟨he, hb⟩ => ⟨⟨_, he, .slice a (D.wd n).length c, ?_, ?_⟩, hb⟩
  · have e1 : decide ((if neg = true then -(n : Int) else n) < 0) = (neg && decide (0 < (D.wd n).length)) := by
      have := wd_len_pos (n := n)
      cases neg with
      | false => simp
      | true => simp only [if_true, Bool.true_and]; rw [decide_eq_decide]; omega
    rw [e1]
  · have e2 : (if neg = true then -(n : Int) else n).natAbs = n := by cases neg <;> simp
    rw [e2]; exact hh.call hb
end Gus
end
section
/- The reference's integers: Sign, Of. -/
namespace Gus
open Go Go.RowKit Go.Proofs
theorem zsign_raw (w : World) (b : Bool) (a : Option Addr) (k cap : Nat) (hk : k ≤ 4611686018427387904) :
    Calls Tryz.prog 75 #[.agg #[.bool b, .slice a k cap]] w fun e w' => e = .returned (.int .i64 (if k = 0 then 0 else if b then -1 else 1)) ∧ Below w.heap.size w w' := by
  by_cases h0 : k = 0
  · have hI : (k : Int) = 0 := by omega
    rw [if_pos h0]
    subst h0
    go_enter Tryz.func75, Tryz.ntmps75
    go_wp2_with fail
    have h := In.self w
    exact bodyPost_ret (v := .int .i64 0) (by simp [results, Tryz.results75, go_sem, *]) rfl ⟨rfl, by (refine In.bel ?_; (repeat (first | (refine In.setCell ?_ (by first | omega | (simp; done) | (simp; omega)) _) | (refine In.alloc ?_ _) | (refine In.drew ?_))); (first | exact In.self _ | (refine In.out h ?_ (by first | omega | (simp; done) | (simp; omega)); (repeat (first | (refine In.setCell ?_ (by first | omega | (simp; done) | (simp; omega)) _) | (refine In.alloc ?_ _) | (refine In.drew ?_))); exact In.self _)))⟩
  · have hI : ¬ (k : Int) = 0 := by omega
    have hI2 : ((k : Int) == 0) = false := by simp [h0]
    rw [if_neg h0]
    cases b with
    | true =>
      go_enter Tryz.func75, Tryz.ntmps75
      go_wp2_with fail
      have h := In.self w
      exact bodyPost_ret (v := .int .i64 (-1)) (by simp [results, Tryz.results75, go_sem, *]) rfl ⟨rfl, by (refine In.bel ?_; (repeat (first | (refine In.setCell ?_ (by first | omega | (simp; done) | (simp; omega)) _) | (refine In.alloc ?_ _) | (refine In.drew ?_))); (first | exact In.self _ | (refine In.out h ?_ (by first | omega | (simp; done) | (simp; omega)); (repeat (first | (refine In.setCell ?_ (by first | omega | (simp; done) | (simp; omega)) _) | (refine In.alloc ?_ _) | (refine In.drew ?_))); exact In.self _)))⟩
    | false =>
      go_enter Tryz.func75, Tryz.ntmps75
      go_wp2_with fail
      have h := In.self w
      exact bodyPost_ret (v := .int .i64 1) (by simp [results, Tryz.results75, go_sem, *]) rfl ⟨rfl, by (refine In.bel ?_; (repeat (first | (refine In.setCell ?_ (by first | omega | (simp; done) | (simp; omega)) _) | (refine In.alloc ?_ _) | (refine In.drew ?_))); (first | exact In.self _ | (refine In.out h ?_ (by first | omega | (simp; done) | (simp; omega)); (repeat (first | (refine In.setCell ?_ (by first | omega | (simp; done) | (simp; omega)) _) | (refine In.alloc ?_ _) | (refine In.drew ?_))); exact In.self _)))⟩
theorem zsign_any (w : World) (v : Value) (z : Int) (h : ZV w v z) (hl : (D.wd z.natAbs).length ≤ 4611686018427387904) :
    Calls Tryz.prog 75 #[v] w fun e w' => e = .returned (.int .i64 z.sign) ∧ Below w.heap.size w w' := by
  obtain ⟨u, rfl, a, c, rfl, _⟩ := h
  refine (zsign_raw w _ a _ c hl).mono fun e w' ⟨he, hb⟩ => ⟨?_, hb⟩
  rw [he]
  have := wd_len_pos (n := z.natAbs)
  rcases Int.lt_trichotomy z 0 with h | h | h
  · rw [if_neg (by omega), decide_eq_true h, if_pos rfl, Int.sign_eq_neg_one_of_neg h]
  · subst h; rfl
  · rw [if_neg (by omega), decide_eq_false (by omega), if_neg (by simp), Int.sign_eq_one_of_pos h]
def RInt (w : World) (z : Int) (e : Ending) (w' : World) : Prop := (∃ v, e = .returned v ∧ ZV w' v z) ∧ Below w.heap.size w w'
theorem NV.put {w : World} {v y : Value} {n : Nat} {p : Addr} (h : NV w v n) (hc : w.cell? p = some y) (hy : ∀ z, y ≠ .int .i64 z) (x : Value) : NV (w.setCell p x) v n := by
  obtain ⟨a, cap, h1, h2, h3, h4⟩ := h
  refine ⟨a, cap, h1, h2, h3, fun i hi => ?_, h4.setTyped p x⟩
  obtain ⟨b, off, e1, e2, e3⟩ := h4 i hi
  refine ⟨b, off, e1, by rw [World.size_setCell]; exact e2, ?_⟩
  rw [← e3]
  refine World.cell?_setCell_other _ _ _ _ (fun e => ?_)
  first
    | (rw [e, hc] at e3; exact hy _ (Option.some.inj e3))
    | (rw [← e, hc] at e3; exact hy _ (Option.some.inj e3))
theorem zof_any (x : Int) (h0 : -9223372036854775808 ≤ x) (h1 : x < 9223372036854775808) (w : World) :
    Calls Tryz.prog 94 #[.int .i64 x] w fun e w' => RInt w x e w' := by
  have hlen := D.wd_length (n := x.natAbs) (k := 5) (by simp only [Nat.reducePow]; omega)
  have hN := rof_any x.natAbs (by omega)
  unfold RInt
  obtain ⟨base, hbase⟩ : ∃ b, b = w.heap.size := ⟨_, rfl⟩
  have hin : In base w w := by rw [hbase]; exact In.self w
  rw [← hbase]
  have HB := Lib.hid hbase
  clear hbase
  by_cases hx : x < 0
  · have hw1 : IntKind.i64.wrap (x + 1) = x + 1 := by simp [IntKind.wrap, IntKind.bits, IntKind.signed]; omega
    have hw2 : IntKind.i64.wrap (-(x + 1)) = -(x + 1) := by simp [IntKind.wrap, IntKind.bits, IntKind.signed]; omega
    have hw3 : IntKind.u64.wrap (-(x + 1)) = -(x + 1) := by simp [IntKind.wrap, IntKind.bits, IntKind.signed]; omega
    have hw4 : IntKind.u64.wrap (-(x + 1) + 1) = (x.natAbs : Int) := by simp [IntKind.wrap, IntKind.bits, IntKind.signed]; omega
    have hs : (if true = true then -(x.natAbs : Int) else x.natAbs) = x := by rw [if_pos rfl]; omega
    have hF := fun W u (h : NV W u x.natAbs) => zfrom_any W true u x.natAbs h (by omega)
    rw [hs] at hF
    clear hs
    have HL := Lib.hid hlen
    clear hlen
    go_enter Tryz.func94, Tryz.ntmps94
    go_upto_region 1 with fail
    skip
    ((obtain ⟨Z, hZ⟩ : ∃ z, z = w.heap.size := ⟨_, rfl⟩); (have bZ := Bx.new_at w #[.bool false, .slice none 0 0] 43 hZ); (have hZb : base ≤ Z := by have := HB.out; omega); (replace hin := hin.alloc (.cells #[.bool false, .slice none 0 0] 43)); (rw [← hZ]); (clear hZ); (generalize w.alloc (.cells #[.bool false, .slice none 0 0] 43) = W1 at *))
    ((go_wp2_with fail); (((with_reducible refine (hN _).mono ?_))); (rintro e wc2 ⟨v, rfl, hv, hb⟩); (clear hN); (replace hin := hin.call hb); (replace bZ := bZ.call hb); (clear hb))
    ((go_wp2_with fail); (((with_reducible refine (hF _ _ hv).mono ?_))); (rintro e wc3 ⟨⟨v2, rfl, hz⟩, hb⟩); (clear hF); (replace hin := hin.call hb); (replace hv := hv.call hb); (replace bZ := bZ.call hb); (clear hb))
    ((obtain ⟨zu, rfl, zh⟩ := hz); (obtain ⟨za, zc, rfl, zr⟩ := id zh); (clear zr); (obtain ⟨sg, hsg⟩ : ∃ s, s = decide (x < 0) := ⟨_, rfl⟩); (rw [← hsg]); (have HSG := Lib.hid hsg); (clear hsg); (have p0 := bZ.c0); (have p1 := bZ.c1); (have pf0 := bZ.frozen 0); (have pf1 := bZ.frozen 1); (have pl := bZ.lt); (have KV := Lib.hid ((zh.put bZ.c0 (by intro z; simp) (.bool (sg))).put (bZ.set 0 (.bool (sg))).c1 (by intro z; simp) (.slice za (D.wd (x.natAbs)).length zc))); (have KI := Lib.hid ((hin.setCell (p := ⟨Z, 0, none⟩) hZb (.bool (sg))).setCell (p := ⟨Z, 1, none⟩) hZb (.slice za (D.wd (x.natAbs)).length zc))); (have KS := Lib.hid ((bZ.set 0 (.bool (sg))).set 1 (.slice za (D.wd (x.natAbs)).length zc))); (clear bZ zh hin); (go_wp2_with fail); (clear p0 p1 pf0 pf1 pl); (have KB := KS.out); (simp only [List.set] at KB); (have p0 := KB.c0); (have p1 := KB.c1); (exact bodyPost_ret (v := .agg #[.bool (sg), (.slice za (D.wd (x.natAbs)).length zc)]) (by simp [results, Tryz.results94, go_sem, p0, p1]) rfl ⟨⟨_, rfl, _, by rw [HSG.out], KV.out⟩, KI.out.bel⟩))
  · have hw1 : IntKind.u64.wrap x = (x.natAbs : Int) := by simp [IntKind.wrap, IntKind.bits, IntKind.signed]; omega
    have hs : (if false = true then -(x.natAbs : Int) else x.natAbs) = x := by rw [if_neg (by simp)]; omega
    have hF := fun W u (h : NV W u x.natAbs) => zfrom_any W false u x.natAbs h (by omega)
    rw [hs] at hF
    clear hs
    have HL := Lib.hid hlen
    clear hlen
    go_enter Tryz.func94, Tryz.ntmps94
    go_upto_region 1 with fail
    skip
    ((obtain ⟨Z, hZ⟩ : ∃ z, z = w.heap.size := ⟨_, rfl⟩); (have bZ := Bx.new_at w #[.bool false, .slice none 0 0] 43 hZ); (have hZb : base ≤ Z := by have := HB.out; omega); (replace hin := hin.alloc (.cells #[.bool false, .slice none 0 0] 43)); (rw [← hZ]); (clear hZ); (generalize w.alloc (.cells #[.bool false, .slice none 0 0] 43) = W1 at *))
    ((go_wp2_with fail); (((with_reducible refine (hN _).mono ?_))); (rintro e wc2 ⟨v, rfl, hv, hb⟩); (clear hN); (replace hin := hin.call hb); (replace bZ := bZ.call hb); (clear hb))
    ((go_wp2_with fail); (((with_reducible refine (hF _ _ hv).mono ?_))); (rintro e wc3 ⟨⟨v2, rfl, hz⟩, hb⟩); (clear hF); (replace hin := hin.call hb); (replace hv := hv.call hb); (replace bZ := bZ.call hb); (clear hb))
    ((obtain ⟨zu, rfl, zh⟩ := hz); (obtain ⟨za, zc, rfl, zr⟩ := id zh); (clear zr); (obtain ⟨sg, hsg⟩ : ∃ s, s = decide (x < 0) := ⟨_, rfl⟩); (rw [← hsg]); (have HSG := Lib.hid hsg); (clear hsg); (have p0 := bZ.c0); (have p1 := bZ.c1); (have pf0 := bZ.frozen 0); (have pf1 := bZ.frozen 1); (have pl := bZ.lt); (have KV := Lib.hid ((zh.put bZ.c0 (by intro z; simp) (.bool (sg))).put (bZ.set 0 (.bool (sg))).c1 (by intro z; simp) (.slice za (D.wd (x.natAbs)).length zc))); (have KI := Lib.hid ((hin.setCell (p := ⟨Z, 0, none⟩) hZb (.bool (sg))).setCell (p := ⟨Z, 1, none⟩) hZb (.slice za (D.wd (x.natAbs)).length zc))); (have KS := Lib.hid ((bZ.set 0 (.bool (sg))).set 1 (.slice za (D.wd (x.natAbs)).length zc))); (clear bZ zh hin); (go_wp2_with fail); (clear p0 p1 pf0 pf1 pl); (have KB := KS.out); (simp only [List.set] at KB); (have p0 := KB.c0); (have p1 := KB.c1); (exact bodyPost_ret (v := .agg #[.bool (sg), (.slice za (D.wd (x.natAbs)).length zc)]) (by simp [results, Tryz.results94, go_sem, p0, p1]) rfl ⟨⟨_, rfl, _, by rw [HSG.out], KV.out⟩, KI.out.bel⟩))
end Gus
end
section
/- The reference's integers: Mul. -/
namespace Gus
open Go Go.RowKit Go.Proofs
theorem RNat.rel {w w' : World} {n : Nat} {e : Ending} (h : RNat w n e w') : (∃ v, e = .returned v ∧ NV w' v n) ∧ Below w.heap.size w w' := by
  obtain ⟨v, h1, h2, h3⟩ := h
  exact ⟨⟨v, h1, h2⟩, h3⟩
def NVr (n : Nat) (v : Value) (w : World) : Prop := NV w v n
theorem NVr.v {n : Nat} {v : Value} {w : World} (h : NVr n v w) : NV w v n := h
def ZVr (z : Int) (v : Value) (w : World) : Prop := ZV w v z
theorem stable_nv (n : Nat) : Stable (NVr n) := fun _ _ _ h hs => NV.call h hs
theorem stable_zv (z : Int) : Stable (ZVr z) := fun _ _ _ h hs => ZV.call h hs
set_option maxRecDepth 100000 in
set_option maxHeartbeats 1000000 in
theorem zmul_any (w : World) (v1 v2 : Value) (x y : Int) (h1 : ZV w v1 x) (h2 : ZV w v2 y) (hs1 : (D.wd x.natAbs).length ≤ 1099511627776) (hs2 : (D.wd y.natAbs).length ≤ 1099511627776) (hs3 : (D.wd (x * y).natAbs).length ≤ 4611686018427387904) :
    Calls Tryz.prog 55 #[v1, v2] w fun e w' => RInt w (x * y) e w' := by
  obtain ⟨u1, rfl, hu1⟩ := h1
  obtain ⟨u2, rfl, hu2⟩ := h2
  obtain ⟨a1, k1, rfl, hr1⟩ := id hu1
  obtain ⟨a2, k2, rfl, hr2⟩ := id hu2
  clear hr1 hr2
  have c1 := fun W (h : In w.heap.size w W) => (rmul_any W _ _ _ _ (hu1.call h.bel) (hu2.call h.bel) hs1 hs2).mono fun _ _ => RNat.rel
  rw [← Int.natAbs_mul] at c1
  have c2 := fun W u (h : NV W u (x * y).natAbs) => zfrom_any W (!(decide (x < 0) == decide (y < 0))) u (x * y).natAbs h hs3
  have hz : (if (!(decide (x < 0) == decide (y < 0))) = true then -((x * y).natAbs : Int) else (x * y).natAbs) = x * y := by
    have e1 := Int.lt_trichotomy x 0
    have e2 := Int.lt_trichotomy y 0
    have e3 := @Int.mul_neg_of_neg_of_pos x y
    have e4 := @Int.mul_neg_of_pos_of_neg x y
    have e5 := @Int.mul_pos_of_neg_of_neg x y
    have e6 := @Int.mul_pos x y
    have e7 : x = 0 → x * y = 0 := fun h => by rw [h, Int.zero_mul]
    have e8 : y = 0 → x * y = 0 := fun h => by rw [h, Int.mul_zero]
    generalize x * y = t at *
    by_cases hx : x < 0 <;> by_cases hy : y < 0 <;> simp only [hx, hy, decide_true, decide_false] <;> (first | rw [if_pos (by rfl)] | rw [if_neg (by decide)]) <;> omega
  rw [hz] at c2
  clear hz hs1 hs2 hs3 hu1 hu2
  unfold RInt
  obtain ⟨base, hbase⟩ : ∃ b, b = w.heap.size := ⟨_, rfl⟩
  rw [← hbase] at c1 ⊢
  have HB := Lib.hid hbase
  clear hbase
  obtain ⟨z, hz⟩ : ∃ z, z = x * y := ⟨_, rfl⟩
  rw [← hz] at c1 c2 ⊢
  clear hz
  generalize decide (x < 0) = b1 at *
  generalize decide (y < 0) = b2 at *
  generalize (D.wd x.natAbs).length = l1 at *
  generalize (D.wd y.natAbs).length = l2 at *
  go_enter Tryz.func55, Tryz.ntmps55
  go_upto_region 1 with fail
  ((obtain ⟨X, hXX⟩ : ∃ z, z = w.heap.size := ⟨_, rfl⟩); (have bV0 := (((Bx.new_at w #[.bool b1, .slice a1 l1 k1] 43 (n := X) (by simp [hXX])).alloc (.cells #[.bool b2, .slice a2 l2 k2] 43)).alloc (.cells #[.bool false, .slice none 0 0] 43))); (have bV1 := ((Bx.new_at (w.alloc (.cells #[.bool b1, .slice a1 l1 k1] 43)) #[.bool b2, .slice a2 l2 k2] 43 (n := X + 1) (by simp [hXX])).alloc (.cells #[.bool false, .slice none 0 0] 43))); (have bV2 := (Bx.new_at ((w.alloc (.cells #[.bool b1, .slice a1 l1 k1] 43)).alloc (.cells #[.bool b2, .slice a2 l2 k2] 43)) #[.bool false, .slice none 0 0] 43 (n := X + 1 + 1) (by simp [hXX]))); (have hV := ((((In.self w).alloc (.cells #[.bool b1, .slice a1 l1 k1] 43)).alloc (.cells #[.bool b2, .slice a2 l2 k2] 43)).alloc (.cells #[.bool false, .slice none 0 0] 43))); (rw [← hXX] at hV ⊢); (have HX := Lib.hid hXX); (clear hXX); (generalize ((w.alloc (.cells #[.bool b1, .slice a1 l1 k1] 43)).alloc (.cells #[.bool b2, .slice a2 l2 k2] 43)).alloc (.cells #[.bool false, .slice none 0 0] 43) = V at *))
  have hin : In base w V := by rw [HB.out, ← HX.out]; exact hV
  have hZb : base ≤ X + 1 + 1 := by rw [HB.out, ← HX.out]; omega
  have p0 := bV0.c0; have p1 := bV0.c1; have pl := bV0.lt
  have q0 := bV1.c0; have q1 := bV1.c1; have ql := bV1.lt
  clear hV HX
  skip
  have h := In.self V; have hc := h.cell; have hf := h.frozen; refine wp_region_flow 11 (by kernel_rfl) (by kernel_rfl) (fun _ _ d _ _ h => by cases d <;> exact h) ?_; simp only [List.take_succ_cons, List.take_zero, List.drop_succ_cons, List.drop_zero]; simp only [putAll, Act.put, List.setIfInBounds_toArray, List.set]; (try simp only [Nat.reduceAdd]); (try simp only [Nat.zero_add]); (repeat (first | ((with_reducible refine flow_float (v := ?_) ?_ ?_ ?_); rotate_left 1; (focus (with_reducible rfl)); (focus (intro u w1 hw hd w2; (try simp only [depH] at hd); (try simp only [ext] at hd); (try simp only [extU] at hd); (try simp only [Nat.reduceAdd] at hd); (try simp only [Nat.reduceEqDiff] at hd); (try simp only [reduceIte] at hd); (try simp only [and_true] at hd); (try simp only [true_and] at hd); go_simp; exact rfl))) | ((first | ((with_reducible refine flow_pure0 (v := ?_) ?_ ?_ ?_ ?_); rotate_left 1; (focus (with_reducible rfl)); (focus rfl)) | ((with_reducible refine flow_pureg (v := ?_) (j := ?_) (b := ?_) ?_ ?_ ?_ ?_); rotate_left 3; (focus (with_reducible rfl)); (focus (intro u w1 hw hd; (try simp only [depH] at hd); (try simp only [ext] at hd); (try simp only [extU] at hd); (try simp only [Nat.reduceAdd] at hd); (try simp only [Nat.reduceEqDiff] at hd); (try simp only [reduceIte] at hd); (try simp only [and_true] at hd); (try simp only [true_and] at hd); simp [yielded, hd]; done)))); (focus (intro u w1 hw hd; (try simp only [depH] at hd); (try simp only [ext] at hd); (try simp only [extU] at hd); (try simp only [Nat.reduceAdd] at hd); (try simp only [Nat.reduceEqDiff] at hd); (try simp only [reduceIte] at hd); (try simp only [and_true] at hd); (try simp only [true_and] at hd); have hc' := hw.cell; go_simp; exact rfl))) | ((with_reducible refine flow_skipg (j := ?_) (b := ?_) ?_ ?_ ?_); rotate_left 2; (focus (with_reducible rfl)); (focus (intro u w1 hw hd; (try simp only [depH] at hd); (try simp only [ext] at hd); (try simp only [extU] at hd); (try simp only [Nat.reduceAdd] at hd); (try simp only [Nat.reduceEqDiff] at hd); (try simp only [reduceIte] at hd); (try simp only [and_true] at hd); (try simp only [true_and] at hd); simp [yielded, hd]; done))) | ((with_reducible refine flow_alloc (t := ?_) (zs := ?_) ?_ ?_ ?_ ?_); rotate_left 2; (focus (with_reducible rfl)); (focus rfl); (focus (intro u w1; go_simp; exact rfl)))))
  (with_reducible refine flow_rel (Vi := NVr z.natAbs) false ?_ ?_ ?_ ?_ ?_ ?_); (focus rfl); (focus rfl); (focus exact stable_nv _); (focus exact placed_false _); (focus (intro u w1 hw hd; (try simp only [depH] at hd); (try simp only [ext] at hd); (try simp only [extU] at hd); (try simp only [Nat.reduceAdd] at hd); (try simp only [Nat.reduceEqDiff] at hd); (try simp only [reduceIte] at hd); (try simp only [and_true] at hd); (try simp only [true_and] at hd); have hc' := hw.cell; go_simp; (try simp only [okUpon]); go_at_call 57; ((with_reducible refine (c1 _ (hin.call hw.ins.bel)).mono ?_)); rintro e w'' ⟨⟨v, rfl, hv⟩, hb⟩; exact ⟨v, rfl, ⟨hv, fun h => by cases h⟩, hb⟩))
  (with_reducible refine flow_rel (Vi := ZVr z) false ?_ ?_ ?_ ?_ ?_ ?_); (focus rfl); (focus rfl); (focus exact stable_zv _); (focus exact placed_false _); (focus (intro u w1 hw hd; (try simp only [depH] at hd); (try simp only [ext] at hd); (try simp only [extU] at hd); (try simp only [Nat.reduceAdd] at hd); (try simp only [Nat.reduceEqDiff] at hd); (try simp only [reduceIte] at hd); (try simp only [and_true] at hd); (try simp only [true_and] at hd); obtain ⟨hd1, hd2, _⟩ := hd; have hc' := hw.cell; go_simp; (try simp only [okUpon]); go_at_call 86; ((with_reducible refine (c2 _ _ hd2.v).mono ?_)); rintro e w'' ⟨⟨v, rfl, hv⟩, hb⟩; exact ⟨v, rfl, ⟨hv, fun h => by cases h⟩, hb⟩))
  (try clear hc hf h); intro u w' h ha hdi; replace h := h.ins; (try simp only [World.size_alloc] at h); (try dsimp only at ha); (repeat rw [World.size_alloc] at ha); (try simp only [allH] at ha); (try simp only [ext] at ha); (try simp only [extU] at ha); (try simp only [Nat.reduceAdd] at ha); (try simp only [Nat.reduceEqDiff] at ha); (try simp only [reduceIte] at ha); (try simp only [and_true] at ha); (try simp only [true_and] at ha); have hc := h.cell; have hf := h.frozen; have hb := h.bel; clear hdi hc hf; clear c1 c2; replace hin := hin.call hb; replace bV2 := bV2.call hb; clear hb h; rename World => W1
  generalize X + 1 + 1 = Z at *
  have bZ := bV2
  obtain ⟨⟨ha, h9⟩, hz⟩ := ha
  replace hz : ZV W1 (u 10) z := hz
  simp only [ha]
  clear ha h9 bV2 bV0 bV1 p0 p1 q0 q1 pl ql
  (try dsimp only)
  generalize u 10 = v10 at *
  ((obtain ⟨zu, rfl, zh⟩ := hz); (obtain ⟨za, zc, rfl, zr⟩ := id zh); (clear zr); (obtain ⟨sg, hsg⟩ : ∃ s, s = decide (z < 0) := ⟨_, rfl⟩); (rw [← hsg]); (have HSG := Lib.hid hsg); (clear hsg); (have p0 := bZ.c0); (have p1 := bZ.c1); (have pf0 := bZ.frozen 0); (have pf1 := bZ.frozen 1); (have pl := bZ.lt); (have KV := Lib.hid ((zh.put bZ.c0 (by intro z; simp) (.bool (sg))).put (bZ.set 0 (.bool (sg))).c1 (by intro z; simp) (.slice za (D.wd (z.natAbs)).length zc))); (have KI := Lib.hid ((hin.setCell (p := ⟨Z, 0, none⟩) hZb (.bool (sg))).setCell (p := ⟨Z, 1, none⟩) hZb (.slice za (D.wd (z.natAbs)).length zc))); (have KS := Lib.hid ((bZ.set 0 (.bool (sg))).set 1 (.slice za (D.wd (z.natAbs)).length zc))); (clear bZ zh hin); (go_wp2_with fail); (clear p0 p1 pf0 pf1 pl); (have KB := KS.out); (simp only [List.set] at KB); (have p0 := KB.c0); (have p1 := KB.c1); (exact bodyPost_ret (v := .agg #[.bool (sg), (.slice za (D.wd (z.natAbs)).length zc)]) (by simp [results, Tryz.results55, go_sem, p0, p1]) rfl ⟨⟨_, rfl, _, by rw [HSG.out], KV.out⟩, KI.out.bel⟩))
end Gus
end
