import Derived.Test.YtakblfhmllgepaaGreatDoorNatC
import Derived.Test.YtakblfhmllgepaaGreatDoorShelfA
import Derived.Laws.BitsAllLaws
import Derived.Laws.Externs
/- The word operations of math/bits. -/
namespace Gus
open Go Go.RowKit Go.Proofs
theorem add32 (x y c : Int) (hx : 0 ≤ x) (hx1 : x < 4294967296) (hy : 0 ≤ y) (hy1 : y < 4294967296) (hc : 0 ≤ c) (hc1 : c ≤ 1) (w : World) :
    Calls Tryz.prog 131 #[.int .u32 x, .int .u32 y, .int .u32 c] w fun e w' => e = .returned (.tuple #[.int .u32 ((x + y + c) % 4294967296), .int .u32 ((x + y + c) / 4294967296)]) ∧ w = w' := by
  go_enter Tryz.func131, Tryz.ntmps131
  go_wp2
  go_ret2
  exact ⟨rfl, rfl⟩
theorem or_join_hi (hi lo : Int) (h0 : 0 ≤ hi) (h1 : hi < 4294967296) (hl : 0 ≤ lo) (hl1 : lo < 4294967296) : bits .or .u64 (hi * 4294967296) lo = hi * 4294967296 + lo := by
  obtain ⟨a, rfl⟩ := Int.eq_ofNat_of_zero_le h0
  obtain ⟨b, rfl⟩ := Int.eq_ofNat_of_zero_le hl
  have e : ((a : Int) * 4294967296) = ((a * 4294967296 : Nat) : Int) := by omega
  rw [e, u64_or_nat _ _ (by omega) (by omega), nat_join 32 _ _ (by simp only [Nat.reducePow]; omega) (by simp only [Nat.reducePow]; omega)]
  omega
set_option maxRecDepth 100000 in
theorem div32 (hi lo y : Int) (h0 : 0 ≤ hi) (h1 : hi < y) (hl : 0 ≤ lo) (hl1 : lo < 4294967296) (hy : y < 4294967296) (w : World) :
    Calls Tryz.prog 142 #[.int .u32 hi, .int .u32 lo, .int .u32 y] w fun e w' => e = .returned (.tuple #[.int .u32 ((hi * 4294967296 + lo) / y), .int .u32 ((hi * 4294967296 + lo) % y)]) ∧ Below w.heap.size w w' := by
  have hy0 : (y == 0) = false := by simp; omega
  have hyn : (y != 0) = true := by simp; omega
  have hle : decide (y ≤ hi) = false := by simp; omega
  have hyz : y ≠ 0 := by omega
  have hor := or_join_hi hi lo h0 (by omega) hl hl1
  have hd : (hi * 4294967296 + lo) / y < 4294967296 := by
    apply Int.ediv_lt_of_lt_mul (by omega); omega
  have hd0 : 0 ≤ (hi * 4294967296 + lo) / y := Int.ediv_nonneg (by omega) (by omega)
  have hr := Int.emod_lt_of_pos (hi * 4294967296 + lo) (b := y) (by omega)
  have hr0 := Int.emod_nonneg (hi * 4294967296 + lo) (b := y) (by omega)
  have hq1 : (hi * 4294967296 + lo).tdiv y = (hi * 4294967296 + lo) / y := Int.tdiv_eq_ediv_of_nonneg (by omega)
  have hq2 : (hi * 4294967296 + lo).tmod y = (hi * 4294967296 + lo) % y := Int.tmod_eq_emod_of_nonneg (by omega)
  have hw1 : IntKind.u64.wrap ((hi * 4294967296 + lo) / y) = (hi * 4294967296 + lo) / y := by simp [IntKind.wrap, IntKind.bits, IntKind.signed]; omega
  have hw2 : IntKind.u64.wrap ((hi * 4294967296 + lo) % y) = (hi * 4294967296 + lo) % y := by simp [IntKind.wrap, IntKind.bits, IntKind.signed]; omega
  have hw3 : IntKind.u32.wrap ((hi * 4294967296 + lo) / y) = (hi * 4294967296 + lo) / y := by rw [IntKind.wrap_u32]; omega
  have hw4 : IntKind.u32.wrap ((hi * 4294967296 + lo) % y) = (hi * 4294967296 + lo) % y := by rw [IntKind.wrap_u32]; omega
  have hw5 : IntKind.u64.wrap y = y := by simp [IntKind.wrap, IntKind.bits, IntKind.signed]; omega
  go_enter Tryz.func142, Tryz.ntmps142
  go_wp2
  (refine wp_region_all (fun w' => w' = w.drew) (by kernel_rfl) (by kernel_rfl) rfl ?_; (repeat (first | (apply wpQuiet_run; (focus rfl); (focus (rintro _ rfl; go_simp; exact rfl)); (try simp only [Act.put]); (try simp only [List.setIfInBounds_toArray]); (try simp only [List.set])) | (apply wpQuiet_skip; (focus rfl); (try simp only [Act.put]); (try simp only [List.setIfInBounds_toArray]); (try simp only [List.set])))); refine wpQuiet_nil ?_; rintro _ rfl)
  clear hw1 hw2 hw3 hw4 hw5 hq1 hq2
  go_wp2
  go_ret2
  exact ⟨rfl, (Below.refl _ _).drew⟩
def bor32 (x y b : Int) : Int := if x < y + b then 1 else 0
theorem bor32_cases (x y b : Int) : (x < y + b ∧ bor32 x y b = 1) ∨ (y + b ≤ x ∧ bor32 x y b = 0) := by
  unfold bor32; by_cases h : x < y + b
  · exact .inl ⟨h, if_pos h⟩
  · exact .inr ⟨by omega, if_neg h⟩
theorem top_bit (p q r : Nat) (hp : p < 2) (hq : q < 2) (hr : r < 2) : ((1 ^^^ p) &&& q ||| (1 ^^^ (p ^^^ q)) &&& r) = if p < q then 1 else if p = q then r else 0 := by
  have hp' : p = 0 ∨ p = 1 := by omega
  have hq' : q = 0 ∨ q = 1 := by omega
  have hr' : r = 0 ∨ r = 1 := by omega
  rcases hp' with rfl | rfl <;> rcases hq' with rfl | rfl <;> rcases hr' with rfl | rfl <;> rfl
theorem sub_top (x y b : Nat) (hx : x < 4294967296) (hy : y < 4294967296) (hb : b ≤ 1) :
    bits .or .u32 (bits .and .u32 (bits .xor .u32 (IntKind.u32.max) (x : Int)) (y : Int)) (bits .and .u32 (bits .xor .u32 (IntKind.u32.max) (bits .xor .u32 (x : Int) (y : Int))) (((x : Int) - y - b) % 4294967296)) / 2147483648 = bor32 x y b := by
  obtain ⟨d, hd⟩ : ∃ d : Nat, (((x : Int) - y - b) % 4294967296) = (d : Int) := ⟨(((x : Int) - y - b) % 4294967296).toNat, by omega⟩
  have hdl : d < 4294967296 := by omega
  rw [hd]
  have hm : (IntKind.u32.max : Int) = ((4294967295 : Nat) : Int) := by decide
  have pw : (4294967296 : Nat) = 2 ^ 32 := by decide
  have xor_lt : ∀ a c : Nat, a < 4294967296 → c < 4294967296 → a ^^^ c < 4294967296 := fun a c h1 h2 => by rw [pw] at *; exact Nat.xor_lt_two_pow h1 h2
  have and_lt : ∀ a c : Nat, c < 4294967296 → a &&& c < 4294967296 := fun a c h2 => by rw [pw] at *; exact Nat.and_lt_two_pow _ h2
  have h1 := xor_lt 4294967295 x (by decide) hx
  have h2 := xor_lt x y hx hy
  have h3 := xor_lt 4294967295 _ (by decide) h2
  have h4 := and_lt (4294967295 ^^^ x) y hy
  have h5 := and_lt (4294967295 ^^^ (x ^^^ y)) d hdl
  rw [hm, u32_xor_nat _ _ (by decide) hx, u32_and_nat _ _ h1 hy, u32_xor_nat _ _ hx hy, u32_xor_nat _ _ (by decide) h2, u32_and_nat _ _ h3 hdl, u32_or_nat _ _ h4 h5]
  have e : ((4294967295 ^^^ x) &&& y ||| (4294967295 ^^^ (x ^^^ y)) &&& d) / 2147483648 = if x / 2147483648 < y / 2147483648 then 1 else if x / 2147483648 = y / 2147483648 then d / 2147483648 else 0 := by
    have sh : ∀ n : Nat, n / 2147483648 = n >>> 31 := fun n => by rw [Nat.shiftRight_eq_div_pow]
    rw [sh, Nat.shiftRight_or_distrib, Nat.shiftRight_and_distrib, Nat.shiftRight_and_distrib, Nat.shiftRight_xor_distrib, Nat.shiftRight_xor_distrib, Nat.shiftRight_xor_distrib, ← sh, ← sh, ← sh, ← sh]
    exact top_bit (x / 2147483648) (y / 2147483648) (d / 2147483648) (by omega) (by omega) (by omega)
  have e2 : ((((4294967295 ^^^ x) &&& y ||| (4294967295 ^^^ (x ^^^ y)) &&& d : Nat) : Int)) / 2147483648 = ((((4294967295 ^^^ x) &&& y ||| (4294967295 ^^^ (x ^^^ y)) &&& d) / 2147483648 : Nat) : Int) := by omega
  rw [e2, e]
  unfold bor32
  split
  · rw [if_pos (by omega)]; rfl
  · split
    · by_cases hlt : (x : Int) < y + b
      · rw [if_pos hlt]; omega
      · rw [if_neg hlt]; omega
    · rw [if_neg (by omega)]; rfl

theorem sub_topI (x y b : Int) (hx : 0 ≤ x) (hx1 : x < 4294967296) (hy : 0 ≤ y) (hy1 : y < 4294967296) (hb : 0 ≤ b) (hb1 : b ≤ 1) :
    bits .or .u32 (bits .and .u32 (bits .xor .u32 (IntKind.u32.max) x) y) (bits .and .u32 (bits .xor .u32 (IntKind.u32.max) (bits .xor .u32 x y)) ((x - y - b) % 4294967296)) / 2147483648 = bor32 x y b := by
  obtain ⟨x, rfl⟩ := Int.eq_ofNat_of_zero_le hx
  obtain ⟨y, rfl⟩ := Int.eq_ofNat_of_zero_le hy
  obtain ⟨b, rfl⟩ := Int.eq_ofNat_of_zero_le hb
  exact sub_top x y b (by omega) (by omega) (by omega)
theorem sub32 (x y b : Int) (hx : 0 ≤ x) (hx1 : x < 4294967296) (hy : 0 ≤ y) (hy1 : y < 4294967296) (hb : 0 ≤ b) (hb1 : b ≤ 1) (w : World) :
    Calls Tryz.prog 129 #[.int .u32 x, .int .u32 y, .int .u32 b] w fun e w' => e = .returned (.tuple #[.int .u32 ((x - y - b) % 4294967296), .int .u32 (bor32 x y b)]) ∧ w = w' := by
  have hs := sub_topI x y b hx hx1 hy hy1 hb hb1
  go_enter Tryz.func129, Tryz.ntmps129
  go_wp2
  go_ret2
  exact ⟨rfl, rfl⟩
/-- LeadingZeros32 of a word that is not 0 -/
theorem lead32 (x : Int) (h0 : 0 ≤ x) (h1 : x ≤ 4294967295) (w : World) :
    Calls Tryz.prog 149 #[.int .u32 x] w fun e w' => e = .returned (.int .i64 (32 - (Lib.bitLen x.toNat : Int))) ∧ w' = w := Tryz.bits_LeadingZeros32 x w h0 h1
set_option maxRecDepth 100000 in
theorem add64_run (x y : Int) (hx : 0 ≤ x) (hy : 0 ≤ y) (w : World) : (callFunc 130 #[.int .u64 x, .int .u64 y, .int .u64 0]).run Tryz.prog w =
    .ok (.value (.tuple #[.int .u64 ((x + y) % 18446744073709551616), .int .u64 ((x + y) / 18446744073709551616)])) w := by
  obtain ⟨x, rfl⟩ := Int.eq_ofNat_of_zero_le hx
  obtain ⟨y, rfl⟩ := Int.eq_ofNat_of_zero_le hy
  rw [run_callFunc_extern Tryz.func130 (by kernel_rfl) (by kernel_rfl) (by kernel_rfl) (e := add64Entry) (by kernel_rfl), run_add64 x y 0 (by omega) (by omega) (by omega) (by omega)]
  simp only [Result.andThen]
  congr 5 <;> omega
end Gus
