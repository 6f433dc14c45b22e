/- Proved here: parts of the proof: Cgo ArgD Lws Lsm Lsy Lsp Lgo Lva. Conditions: those that each theorem states. -/
import Derived.Test.YtjbclomfocnplaaGreatDoorCgwR
import Derived.Test.YtjbclomfocnplaaGreatDoorSameR
import Derived.Deep.Slices
import Derived.Deep.Strs
import Derived.Test.YtjbclomfocnplaaGreatDoorMatAR
import Derived.Test.YtjbclomfocnplaaGreatDoorRvlR
import Derived.Test.YtjbclomfocnplaaGreatDoorIvaR
import Derived.Test.YtjbclomfocnplaaGreatDoorShelfUR
section
/- cgs: the outer functions, Left, Energy, From, Run, Solve. -/
namespace Gus
open Go Go.RowKit Go.Proofs
/-- what the checks need to know of a raw matrix -/
def RawK (w : World) (S : Value) (chk : Int) (sy : Bool) : Prop :=
  (∀ W, In w.heap.size w W → Calls Tryz.prog 37 #[S] W fun e w' => e = .returned (.int .i64 chk) ∧ Below W.heap.size W w') ∧
  (∀ W, In w.heap.size w W → Calls Tryz.prog 38 #[S] W fun e w' => e = .returned (.bool sy) ∧ Below W.heap.size W w')
theorem RawK.in {w W : World} {S : Value} {chk : Int} {sy : Bool} (h : RawK w S chk sy) (hin : In w.heap.size w W) : RawK W S chk sy :=
  ⟨fun V hV => h.1 V (hin.call hV.bel), fun V hV => h.2 V (hin.call hV.bel)⟩
theorem beg_two {w : World} {n m : Int} {ra : Option Addr} {rl rc : Nat} {ba xa : Option Addr} {bn bc xn xc : Nat} {M : Addr} {mc : Nat} {chk : Int} {sy : Bool} (hk : RawK w (.agg #[.int .i64 n, .int .i64 m, .slice ra rl rc]) chk sy) (hM : w.cell? M = some (.slice xa xn xc)) (hMs : M.spot = none) :
    Calls Tryz.prog 73 #[.agg #[.int .i64 n, .int .i64 m, .slice ra rl rc], .slice ba bn bc, .slice (some M) 1 mc] w fun e w' => e = .returned (.tuple #[if beginE chk sy [bn, xn] n = 0 then .agg #[.int .i64 n, .int .i64 m, .slice ra rl rc, .slice ba bn bc] else zeroSys, .int .i64 (beginE chk sy [bn, xn] n)]) ∧ Below w.heap.size w w' :=
  begin_one w n m ra rl rc ba xa bn bc xn xc M mc chk sy hM hMs hk.1 hk.2
set_option maxRecDepth 100000 in
set_option maxHeartbeats 2000000 in
theorem left_bad {E : Int} (w : World) (n m : Int) (ra : Option Addr) (rl rc : Nat) (ba xa : Option Addr) (bn bc xn xc : Nat) (chk : Int) (sy : Bool) (hk : RawK w (.agg #[.int .i64 n, .int .i64 m, .slice ra rl rc]) chk sy) (hE : beginE chk sy [bn, xn] n = E) (h0 : E ≠ 0) :
    Calls Tryz.prog 17 #[.agg #[.int .i64 n, .int .i64 m, .slice ra rl rc], .slice ba bn bc, .slice xa xn xc] w fun e w' => e = .returned (.tuple #[.slice none 0 0, .int .i64 E]) ∧ Below w.heap.size w w' := by
  have cb := fun W (h : In w.heap.size w W) => beg_two (w := W.alloc (.cells #[.slice xa xn xc] 33)) (ba := ba) (bn := bn) (bc := bc) (mc := 1) (hk.in (h.alloc _)) ((Bx.new_at W #[.slice xa xn xc] 33 rfl).cell 0) rfl
  simp only [hE, if_neg h0] at cb
  have h1 : (E != 0) = true := by simpa using h0
  clear hE h0 hk
  go_enter Tryz.func17, Tryz.ntmps17
  go_upto_region 1 with fail
  ((obtain ⟨X, hXX⟩ : ∃ z, z = w.heap.size := ⟨_, rfl⟩); (have bV0 := (Bx.new_at w #[.int .i64 n, .int .i64 m, .slice ra rl rc] 30 (n := X) (by simp [hXX]))); (have hV := ((In.self w).alloc (.cells #[.int .i64 n, .int .i64 m, .slice ra rl rc] 30))); (rw [← hXX] at hV ⊢); (have HX := Lib.hid hXX); (clear hXX); (generalize w.alloc (.cells #[.int .i64 n, .int .i64 m, .slice ra rl rc] 30) = V at *))
  have cb1 := cb V (by rw [HX.out] at hV; exact hV)
  have x0 := bV0.c0; have x1 := bV0.c1; have x2 := bV0.c2; have xl := bV0.lt
  go_wp2_with fail
  ((with_reducible refine cb1.mono ?_))
  rintro e w2 ⟨rfl, hb⟩
  have hin := (hV.alloc (.cells #[.slice xa xn xc] 33)).call hb
  clear hb hV bV0 cb cb1
  go_upto_region 2 with fail
  have hin2 := Lib.hid (hin.alloc (.cells #[.int .i64 0, .int .i64 0, .slice none 0 0, .slice none 0 0] 150))
  clear hin
  go_wp2_with fail
  exact bodyPost_ret (v := .tuple #[.slice none 0 0, .int .i64 E]) (by simp [results, Tryz.results17, go_sem]) rfl ⟨rfl, by rw [← HX.out]; exact hin2.out.bel⟩
set_option maxRecDepth 100000 in
set_option maxHeartbeats 2000000 in
theorem left_ok (w : World) (n m : Int) (ra : Option Addr) (rl rc : Nat) (ba xa : Option Addr) (bn bc xn xc : Nat) (chk : Int) (sy : Bool) (hk : RawK w (.agg #[.int .i64 n, .int .i64 m, .slice ra rl rc]) chk sy) (hE : beginE chk sy [bn, xn] n = 0) (L : List Rat)
    (hl : ∀ W, In w.heap.size w W → Calls Tryz.prog 76 #[.agg #[.int .i64 n, .int .i64 m, .slice ra rl rc, .slice ba bn bc], .slice xa xn xc] W fun e w' => (∃ d, e = .returned d ∧ VecAt w' d L) ∧ Below W.heap.size W w') :
    Calls Tryz.prog 17 #[.agg #[.int .i64 n, .int .i64 m, .slice ra rl rc], .slice ba bn bc, .slice xa xn xc] w fun e w' => (∃ d, e = .returned (.tuple #[d, .int .i64 0]) ∧ VecAt w' d L) ∧ Below w.heap.size w w' := by
  have cb := fun W (h : In w.heap.size w W) => beg_two (w := W.alloc (.cells #[.slice xa xn xc] 33)) (ba := ba) (bn := bn) (bc := bc) (mc := 1) (hk.in (h.alloc _)) ((Bx.new_at W #[.slice xa xn xc] 33 rfl).cell 0) rfl
  simp only [hE, if_pos] at cb
  clear hE hk
  go_enter Tryz.func17, Tryz.ntmps17
  go_upto_region 1 with fail
  ((obtain ⟨X, hXX⟩ : ∃ z, z = w.heap.size := ⟨_, rfl⟩); (have bV0 := (Bx.new_at w #[.int .i64 n, .int .i64 m, .slice ra rl rc] 30 (n := X) (by simp [hXX]))); (have hV := ((In.self w).alloc (.cells #[.int .i64 n, .int .i64 m, .slice ra rl rc] 30))); (rw [← hXX] at hV ⊢); (have HX := Lib.hid hXX); (clear hXX); (generalize w.alloc (.cells #[.int .i64 n, .int .i64 m, .slice ra rl rc] 30) = V at *))
  have cb1 := cb V (by rw [HX.out] at hV; exact hV)
  have x0 := bV0.c0; have x1 := bV0.c1; have x2 := bV0.c2; have xl := bV0.lt
  go_wp2_with fail
  ((with_reducible refine cb1.mono ?_))
  rintro e w2 ⟨rfl, hb⟩
  have hin := (hV.alloc (.cells #[.slice xa xn xc] 33)).call hb
  clear hb hV bV0 cb cb1 x0 x1 x2 xl
  go_upto_region 2 with fail
  ((obtain ⟨S, hS⟩ : ∃ z, z = w2.heap.size := ⟨_, rfl⟩); (have bS := Bx.new_at w2 #[.int .i64 n, .int .i64 m, .slice ra rl rc, .slice ba bn bc] 150 hS); (replace hin := hin.alloc (.cells #[.int .i64 n, .int .i64 m, .slice ra rl rc, .slice ba bn bc] 150)); (rw [← hS]); (clear hS); (generalize w2.alloc (.cells #[.int .i64 n, .int .i64 m, .slice ra rl rc, .slice ba bn bc] 150) = V2 at *))
  have s0 := bS.c0; have s1 := bS.c1; have s2 := bS.c2; have s3 := bS.c3; have sl := bS.lt
  rw [HX.out] at hin
  have hl1 := hl V2 hin
  clear hl bS
  go_wp2_with fail
  ((with_reducible refine hl1.mono ?_))
  rintro e w3 ⟨⟨d, rfl, hd⟩, hb⟩
  have hin3 := Lib.hid (hin.call hb)
  have HD := Lib.hid hd
  clear hin hl1 hb hd
  obtain ⟨da, dk, rfl⟩ := HD.out.shape
  go_wp2_with fail
  exact bodyPost_ret (v := .tuple #[.slice da L.length dk, .int .i64 0]) (by simp [results, Tryz.results17, go_sem]) rfl ⟨⟨_, rfl, HD.out⟩, hin3.out.bel⟩
set_option maxRecDepth 100000 in
set_option maxHeartbeats 2000000 in
theorem energy_bad {E : Int} (w : World) (n m : Int) (ra : Option Addr) (rl rc : Nat) (ba xa : Option Addr) (bn bc xn xc : Nat) (chk : Int) (sy : Bool) (hk : RawK w (.agg #[.int .i64 n, .int .i64 m, .slice ra rl rc]) chk sy) (hE : beginE chk sy [bn, xn] n = E) (h0 : E ≠ 0) :
    Calls Tryz.prog 22 #[.agg #[.int .i64 n, .int .i64 m, .slice ra rl rc], .slice ba bn bc, .slice xa xn xc] w fun e w' => e = .returned (.tuple #[.agg #[.int .u64 0, .string ⟨#[]⟩, .bool false, .int .u64 0, .string ⟨#[]⟩], .int .i64 E]) ∧ Below w.heap.size w w' := by
  have cb := fun W (h : In w.heap.size w W) => beg_two (w := W.alloc (.cells #[.slice xa xn xc] 33)) (ba := ba) (bn := bn) (bc := bc) (mc := 1) (hk.in (h.alloc _)) ((Bx.new_at W #[.slice xa xn xc] 33 rfl).cell 0) rfl
  simp only [hE, if_neg h0] at cb
  have h1 : (E != 0) = true := by simpa using h0
  clear hE h0 hk
  go_enter Tryz.func22, Tryz.ntmps22
  go_upto_region 1 with fail
  ((obtain ⟨X, hXX⟩ : ∃ z, z = w.heap.size := ⟨_, rfl⟩); (have bV0 := ((Bx.new_at w #[.int .i64 n, .int .i64 m, .slice ra rl rc] 30 (n := X) (by simp [hXX])).alloc (.cells #[.int .u64 0, .string ⟨#[]⟩, .bool false, .int .u64 0, .string ⟨#[]⟩] 52))); (have bV1 := (Bx.new_at (w.alloc (.cells #[.int .i64 n, .int .i64 m, .slice ra rl rc] 30)) #[.int .u64 0, .string ⟨#[]⟩, .bool false, .int .u64 0, .string ⟨#[]⟩] 52 (n := X + 1) (by simp [hXX]))); (have hV := (((In.self w).alloc (.cells #[.int .i64 n, .int .i64 m, .slice ra rl rc] 30)).alloc (.cells #[.int .u64 0, .string ⟨#[]⟩, .bool false, .int .u64 0, .string ⟨#[]⟩] 52))); (rw [← hXX] at hV ⊢); (have HX := Lib.hid hXX); (clear hXX); (generalize (w.alloc (.cells #[.int .i64 n, .int .i64 m, .slice ra rl rc] 30)).alloc (.cells #[.int .u64 0, .string ⟨#[]⟩, .bool false, .int .u64 0, .string ⟨#[]⟩] 52) = V at *))
  have cb1 := cb V (by rw [HX.out] at hV; exact hV)
  have x0 := bV0.c0; have x1 := bV0.c1; have x2 := bV0.c2; have xl := bV0.lt
  go_wp2_with fail
  ((with_reducible refine cb1.mono ?_))
  rintro e w2 ⟨rfl, hb⟩
  have hin := (hV.alloc (.cells #[.slice xa xn xc] 33)).call hb
  have bq := (bV1.alloc (.cells #[.slice xa xn xc] 33)).call hb
  clear hb hV bV0 bV1 cb cb1 x0 x1 x2 xl
  go_upto_region 2 with fail
  ((obtain ⟨S, hS⟩ : ∃ z, z = w2.heap.size := ⟨_, rfl⟩); (have bS := Bx.new_at w2 #[.int .i64 0, .int .i64 0, .slice none 0 0, .slice none 0 0] 150 hS); (replace hin := hin.alloc (.cells #[.int .i64 0, .int .i64 0, .slice none 0 0, .slice none 0 0] 150)); (replace bq := bq.alloc (.cells #[.int .i64 0, .int .i64 0, .slice none 0 0, .slice none 0 0] 150)); (rw [← hS]); (clear hS); (generalize w2.alloc (.cells #[.int .i64 0, .int .i64 0, .slice none 0 0, .slice none 0 0] 150) = V2 at *))
  clear bS
  ((have q0 := bq.c0); (have q1 := bq.c1); (have q2 := bq.c2); (have q3 := bq.c3); (have q4 := bq.c4); (have f0 := bq.frozen 0); (have f1 := bq.frozen 1); (have f2 := bq.frozen 2); (have f3 := bq.frozen 3); (have f4 := bq.frozen 4); (have ql := bq.lt); (have K1 := Lib.hid ((((((bq.set 0 (.int .u64 0)).set 1 (.string ⟨#[]⟩)).set 2 (.bool false)).set 3 (.int .u64 0)).set 4 (.string ⟨#[]⟩)))); (have K2 := Lib.hid ((((((hin.setCell (p := ⟨(X + 1), 0, none⟩) (by first | (simp; done) | (have := HX.out; simp; omega)) (.int .u64 0)).setCell (p := ⟨(X + 1), 1, none⟩) (by first | (simp; done) | (have := HX.out; simp; omega)) (.string ⟨#[]⟩)).setCell (p := ⟨(X + 1), 2, none⟩) (by first | (simp; done) | (have := HX.out; simp; omega)) (.bool false)).setCell (p := ⟨(X + 1), 3, none⟩) (by first | (simp; done) | (have := HX.out; simp; omega)) (.int .u64 0)).setCell (p := ⟨(X + 1), 4, none⟩) (by first | (simp; done) | (have := HX.out; simp; omega)) (.string ⟨#[]⟩)))); (clear bq hin); (go_wp2_with fail); (have k1 := K1.out); (have k2 := K2.out); (clear q0 q1 q2 q3 q4 f0 f1 f2 f3 f4 ql K1 K2); (generalize ((((V2.setCell ⟨(X + 1), 0, none⟩ (.int .u64 0)).setCell ⟨(X + 1), 1, none⟩ (.string ⟨#[]⟩)).setCell ⟨(X + 1), 2, none⟩ (.bool false)).setCell ⟨(X + 1), 3, none⟩ (.int .u64 0)).setCell ⟨(X + 1), 4, none⟩ (.string ⟨#[]⟩) = W5 at *); (have e0 : W5.cell? ⟨(X + 1), 0, none⟩ = some (.int .u64 0) := k1.cell 0); (have e1 : W5.cell? ⟨(X + 1), 1, none⟩ = some (.string ⟨#[]⟩) := k1.cell 1); (have e2 : W5.cell? ⟨(X + 1), 2, none⟩ = some (.bool false) := k1.cell 2); (have e3 : W5.cell? ⟨(X + 1), 3, none⟩ = some (.int .u64 0) := k1.cell 3); (have e4 : W5.cell? ⟨(X + 1), 4, none⟩ = some (.string ⟨#[]⟩) := k1.cell 4); (have hz := k2.bel); (refine bodyPost_ret (v := .tuple #[.agg #[.int .u64 0, .string ⟨#[]⟩, .bool false, .int .u64 0, .string ⟨#[]⟩], .int .i64 E]) ?_ rfl ⟨rfl, by rw [← HX.out]; exact hz⟩); (simp [results, Tryz.results22, go_sem, e0, e1, e2, e3, e4]))
set_option maxRecDepth 100000 in
set_option maxHeartbeats 2000000 in
theorem energy_ok (w : World) (n m : Int) (ra : Option Addr) (rl rc : Nat) (ba xa : Option Addr) (bn bc xn xc : Nat) (chk : Int) (sy : Bool) (hk : RawK w (.agg #[.int .i64 n, .int .i64 m, .slice ra rl rc]) chk sy) (hE : beginE chk sy [bn, xn] n = 0) (q : Rat)
    (hl : ∀ W, In w.heap.size w W → Calls Tryz.prog 80 #[.agg #[.int .i64 n, .int .i64 m, .slice ra rl rc, .slice ba bn bc], .slice xa xn xc] W fun e w' => e = .returned (fracV q) ∧ Below W.heap.size W w') :
    Calls Tryz.prog 22 #[.agg #[.int .i64 n, .int .i64 m, .slice ra rl rc], .slice ba bn bc, .slice xa xn xc] w fun e w' => e = .returned (.tuple #[fracV q, .int .i64 0]) ∧ Below w.heap.size w w' := by
  have cb := fun W (h : In w.heap.size w W) => beg_two (w := W.alloc (.cells #[.slice xa xn xc] 33)) (ba := ba) (bn := bn) (bc := bc) (mc := 1) (hk.in (h.alloc _)) ((Bx.new_at W #[.slice xa xn xc] 33 rfl).cell 0) rfl
  simp only [hE, if_pos] at cb
  obtain ⟨P1, P2, P3, P4, P5, hP, hP'⟩ : ∃ A1 A2 A3 A4 A5, fracV q = .agg #[.int .u64 A1, .string A2, .bool A3, .int .u64 A4, .string A5] ∧ fcs q = [.int .u64 A1, .string A2, .bool A3, .int .u64 A4, .string A5] := ⟨_, _, _, _, _, rfl, rfl⟩
  rw [hP] at hl ⊢
  clear hE hk hP hP'
  go_enter Tryz.func22, Tryz.ntmps22
  go_upto_region 1 with fail
  ((obtain ⟨X, hXX⟩ : ∃ z, z = w.heap.size := ⟨_, rfl⟩); (have bV0 := ((Bx.new_at w #[.int .i64 n, .int .i64 m, .slice ra rl rc] 30 (n := X) (by simp [hXX])).alloc (.cells #[.int .u64 0, .string ⟨#[]⟩, .bool false, .int .u64 0, .string ⟨#[]⟩] 52))); (have bV1 := (Bx.new_at (w.alloc (.cells #[.int .i64 n, .int .i64 m, .slice ra rl rc] 30)) #[.int .u64 0, .string ⟨#[]⟩, .bool false, .int .u64 0, .string ⟨#[]⟩] 52 (n := X + 1) (by simp [hXX]))); (have hV := (((In.self w).alloc (.cells #[.int .i64 n, .int .i64 m, .slice ra rl rc] 30)).alloc (.cells #[.int .u64 0, .string ⟨#[]⟩, .bool false, .int .u64 0, .string ⟨#[]⟩] 52))); (rw [← hXX] at hV ⊢); (have HX := Lib.hid hXX); (clear hXX); (generalize (w.alloc (.cells #[.int .i64 n, .int .i64 m, .slice ra rl rc] 30)).alloc (.cells #[.int .u64 0, .string ⟨#[]⟩, .bool false, .int .u64 0, .string ⟨#[]⟩] 52) = V at *))
  have cb1 := cb V (by rw [HX.out] at hV; exact hV)
  have x0 := bV0.c0; have x1 := bV0.c1; have x2 := bV0.c2; have xl := bV0.lt
  go_wp2_with fail
  ((with_reducible refine cb1.mono ?_))
  rintro e w2 ⟨rfl, hb⟩
  have hin := (hV.alloc (.cells #[.slice xa xn xc] 33)).call hb
  have bq := (bV1.alloc (.cells #[.slice xa xn xc] 33)).call hb
  clear hb hV bV0 bV1 cb cb1 x0 x1 x2 xl
  go_upto_region 2 with fail
  ((obtain ⟨S, hS⟩ : ∃ z, z = w2.heap.size := ⟨_, rfl⟩); (have bS := Bx.new_at w2 #[.int .i64 n, .int .i64 m, .slice ra rl rc, .slice ba bn bc] 150 hS); (replace hin := hin.alloc (.cells #[.int .i64 n, .int .i64 m, .slice ra rl rc, .slice ba bn bc] 150)); (replace bq := bq.alloc (.cells #[.int .i64 n, .int .i64 m, .slice ra rl rc, .slice ba bn bc] 150)); (rw [← hS]); (clear hS); (generalize w2.alloc (.cells #[.int .i64 n, .int .i64 m, .slice ra rl rc, .slice ba bn bc] 150) = V2 at *))
  have s0 := bS.c0; have s1 := bS.c1; have s2 := bS.c2; have s3 := bS.c3; have sl := bS.lt
  have hin0 := hin
  rw [HX.out] at hin0
  have hl1 := hl V2 hin0
  clear hl bS hin0
  go_wp2_with fail
  ((with_reducible refine hl1.mono ?_))
  rintro e w3 ⟨rfl, hb⟩
  replace hin := hin.call hb
  replace bq := bq.call hb
  clear hl1 hb
  ((have q0 := bq.c0); (have q1 := bq.c1); (have q2 := bq.c2); (have q3 := bq.c3); (have q4 := bq.c4); (have f0 := bq.frozen 0); (have f1 := bq.frozen 1); (have f2 := bq.frozen 2); (have f3 := bq.frozen 3); (have f4 := bq.frozen 4); (have ql := bq.lt); (have K1 := Lib.hid ((((((bq.set 0 (.int .u64 P1)).set 1 (.string P2)).set 2 (.bool P3)).set 3 (.int .u64 P4)).set 4 (.string P5)))); (have K2 := Lib.hid ((((((hin.setCell (p := ⟨(X + 1), 0, none⟩) (by first | (simp; done) | (have := HX.out; simp; omega)) (.int .u64 P1)).setCell (p := ⟨(X + 1), 1, none⟩) (by first | (simp; done) | (have := HX.out; simp; omega)) (.string P2)).setCell (p := ⟨(X + 1), 2, none⟩) (by first | (simp; done) | (have := HX.out; simp; omega)) (.bool P3)).setCell (p := ⟨(X + 1), 3, none⟩) (by first | (simp; done) | (have := HX.out; simp; omega)) (.int .u64 P4)).setCell (p := ⟨(X + 1), 4, none⟩) (by first | (simp; done) | (have := HX.out; simp; omega)) (.string P5)))); (clear bq hin); (go_wp2_with fail); (have k1 := K1.out); (have k2 := K2.out); (clear q0 q1 q2 q3 q4 f0 f1 f2 f3 f4 ql K1 K2); (generalize ((((w3.setCell ⟨(X + 1), 0, none⟩ (.int .u64 P1)).setCell ⟨(X + 1), 1, none⟩ (.string P2)).setCell ⟨(X + 1), 2, none⟩ (.bool P3)).setCell ⟨(X + 1), 3, none⟩ (.int .u64 P4)).setCell ⟨(X + 1), 4, none⟩ (.string P5) = W5 at *); (have e0 : W5.cell? ⟨(X + 1), 0, none⟩ = some (.int .u64 P1) := k1.cell 0); (have e1 : W5.cell? ⟨(X + 1), 1, none⟩ = some (.string P2) := k1.cell 1); (have e2 : W5.cell? ⟨(X + 1), 2, none⟩ = some (.bool P3) := k1.cell 2); (have e3 : W5.cell? ⟨(X + 1), 3, none⟩ = some (.int .u64 P4) := k1.cell 3); (have e4 : W5.cell? ⟨(X + 1), 4, none⟩ = some (.string P5) := k1.cell 4); (have hz := k2.bel); (refine bodyPost_ret (v := .tuple #[.agg #[.int .u64 P1, .string P2, .bool P3, .int .u64 P4, .string P5], .int .i64 0]) ?_ rfl ⟨rfl, by rw [← HX.out]; exact hz⟩); (simp [results, Tryz.results22, go_sem, e0, e1, e2, e3, e4]))
set_option maxRecDepth 100000 in
set_option maxHeartbeats 2000000 in
theorem from_bad {E : Int} (w : World) (n m : Int) (ra : Option Addr) (rl rc : Nat) (ba xa : Option Addr) (bn bc xn xc : Nat) (chk : Int) (sy : Bool) (hk : RawK w (.agg #[.int .i64 n, .int .i64 m, .slice ra rl rc]) chk sy) (hE : beginE chk sy [bn, xn] n = E) (h0 : E ≠ 0) :
    Calls Tryz.prog 16 #[.agg #[.int .i64 n, .int .i64 m, .slice ra rl rc], .slice ba bn bc, .slice xa xn xc] w fun e w' => e = .returned (.tuple #[.slice none 0 0, .int .i64 E]) ∧ Below w.heap.size w w' := by
  have cb := fun W (h : In w.heap.size w W) => beg_two (w := W.alloc (.cells #[.slice xa xn xc] 33)) (ba := ba) (bn := bn) (bc := bc) (mc := 1) (hk.in (h.alloc _)) ((Bx.new_at W #[.slice xa xn xc] 33 rfl).cell 0) rfl
  simp only [hE, if_neg h0] at cb
  have h1 : (E != 0) = true := by simpa using h0
  clear hE h0 hk
  go_enter Tryz.func16, Tryz.ntmps16
  go_upto_region 1 with fail
  ((obtain ⟨X, hXX⟩ : ∃ z, z = w.heap.size := ⟨_, rfl⟩); (have bV0 := (Bx.new_at w #[.int .i64 n, .int .i64 m, .slice ra rl rc] 30 (n := X) (by simp [hXX]))); (have hV := ((In.self w).alloc (.cells #[.int .i64 n, .int .i64 m, .slice ra rl rc] 30))); (rw [← hXX] at hV ⊢); (have HX := Lib.hid hXX); (clear hXX); (generalize w.alloc (.cells #[.int .i64 n, .int .i64 m, .slice ra rl rc] 30) = V at *))
  have cb1 := cb V (by rw [HX.out] at hV; exact hV)
  have x0 := bV0.c0; have x1 := bV0.c1; have x2 := bV0.c2; have xl := bV0.lt
  go_wp2_with fail
  ((with_reducible refine cb1.mono ?_))
  rintro e w2 ⟨rfl, hb⟩
  have hin := (hV.alloc (.cells #[.slice xa xn xc] 33)).call hb
  clear hb hV bV0 cb cb1
  go_upto_region 2 with fail
  have hin2 := Lib.hid (hin.alloc (.cells #[.int .i64 0, .int .i64 0, .slice none 0 0, .slice none 0 0] 150))
  clear hin
  go_wp2_with fail
  exact bodyPost_ret (v := .tuple #[.slice none 0 0, .int .i64 E]) (by simp [results, Tryz.results16, go_sem]) rfl ⟨rfl, by rw [← HX.out]; exact hin2.out.bel⟩
/-- a slice and an error, of which the relation holds -/
def TupP (P : Value → World → Prop) (x : Value) (w : World) : Prop := TupS x ∧ P x w
theorem stable_tupp {P : Value → World → Prop} (h : Stable P) : Stable (TupP P) := fun _ _ _ ⟨h1, h2⟩ hs => ⟨h1, h _ _ _ h2 hs⟩
set_option maxRecDepth 100000 in
set_option maxHeartbeats 2000000 in
theorem from_ok (w : World) (n m : Int) (ra : Option Addr) (rl rc : Nat) (ba xa : Option Addr) (bn bc xn xc : Nat) (chk : Int) (sy : Bool) (hk : RawK w (.agg #[.int .i64 n, .int .i64 m, .slice ra rl rc]) chk sy) (hE : beginE chk sy [bn, xn] n = 0) (qs : List Rat) (hx : VecAt w (.slice xa xn xc) qs) (hq : qs.length ≤ 4096) (P : Value → World → Prop) (hP : Stable P)
    (hr : ∀ W d, In w.heap.size w W → VecAt W d qs → Calls Tryz.prog 74 #[.agg #[.int .i64 n, .int .i64 m, .slice ra rl rc, .slice ba bn bc], d] W fun e w' => (∃ v, e = .returned v ∧ TupP P v w') ∧ Below W.heap.size W w') :
    Calls Tryz.prog 16 #[.agg #[.int .i64 n, .int .i64 m, .slice ra rl rc], .slice ba bn bc, .slice xa xn xc] w fun e w' => (∃ v, e = .returned v ∧ TupP P v w') ∧ Below w.heap.size w w' := by
  have cc := fun W (h : In w.heap.size w W) => clone_any W _ qs (hx.call h.bel) hq
  have cb := fun W (h : In w.heap.size w W) => beg_two (w := W.alloc (.cells #[.slice xa xn xc] 33)) (ba := ba) (bn := bn) (bc := bc) (mc := 1) (hk.in (h.alloc _)) ((Bx.new_at W #[.slice xa xn xc] 33 rfl).cell 0) rfl
  simp only [hE, if_pos] at cb
  clear hE hk hx
  go_enter Tryz.func16, Tryz.ntmps16
  go_upto_region 1 with fail
  ((obtain ⟨X, hXX⟩ : ∃ z, z = w.heap.size := ⟨_, rfl⟩); (have bV0 := (Bx.new_at w #[.int .i64 n, .int .i64 m, .slice ra rl rc] 30 (n := X) (by simp [hXX]))); (have hV := ((In.self w).alloc (.cells #[.int .i64 n, .int .i64 m, .slice ra rl rc] 30))); (rw [← hXX] at hV ⊢); (have HX := Lib.hid hXX); (clear hXX); (generalize w.alloc (.cells #[.int .i64 n, .int .i64 m, .slice ra rl rc] 30) = V at *))
  have cb1 := cb V (by rw [HX.out] at hV; exact hV)
  have x0 := bV0.c0; have x1 := bV0.c1; have x2 := bV0.c2; have xl := bV0.lt
  go_wp2_with fail
  ((with_reducible refine cb1.mono ?_))
  rintro e w2 ⟨rfl, hb⟩
  have hin := (hV.alloc (.cells #[.slice xa xn xc] 33)).call hb
  clear hb hV bV0 cb cb1 x0 x1 x2 xl
  go_upto_region 2 with fail
  ((obtain ⟨S, hS⟩ : ∃ z, z = w2.heap.size := ⟨_, rfl⟩); (have bS := Bx.new_at w2 #[.int .i64 n, .int .i64 m, .slice ra rl rc, .slice ba bn bc] 150 hS); (replace hin := hin.alloc (.cells #[.int .i64 n, .int .i64 m, .slice ra rl rc, .slice ba bn bc] 150)); (rw [← hS]); (clear hS); (generalize w2.alloc (.cells #[.int .i64 n, .int .i64 m, .slice ra rl rc, .slice ba bn bc] 150) = V2 at *))
  have s0 := bS.c0; have s1 := bS.c1; have s2 := bS.c2; have s3 := bS.c3; have sl := bS.lt
  rw [HX.out] at hin
  clear bS
  go_upto_region 4 with fail
  have h := In.self V2
  have hc := h.cell
  refine wp_region_flow 6 (by kernel_rfl) (by kernel_rfl) (fun _ _ d _ _ h => by cases d <;> exact h) ?_; simp only [List.take_succ_cons, List.take_zero, List.drop_succ_cons, List.drop_zero]; simp only [putAll, Act.put, List.setIfInBounds_toArray, List.set]; (try simp only [Nat.reduceAdd]); (try simp only [Nat.zero_add]); (repeat (first | ((with_reducible refine flow_float (v := ?_) ?_ ?_ ?_); rotate_left 1; (focus (with_reducible rfl)); (focus (intro u w1 hw hd w2; (try simp only [depH] at hd); (try simp only [ext] at hd); (try simp only [extU] at hd); (try simp only [Nat.reduceAdd] at hd); (try simp only [Nat.reduceEqDiff] at hd); (try simp only [reduceIte] at hd); (try simp only [and_true] at hd); (try simp only [true_and] at hd); go_simp; exact rfl))) | ((first | ((with_reducible refine flow_pure0 (v := ?_) ?_ ?_ ?_ ?_); rotate_left 1; (focus (with_reducible rfl)); (focus rfl)) | ((with_reducible refine flow_pureg (v := ?_) (j := ?_) (b := ?_) ?_ ?_ ?_ ?_); rotate_left 3; (focus (with_reducible rfl)); (focus (intro u w1 hw hd; (try simp only [depH] at hd); (try simp only [ext] at hd); (try simp only [extU] at hd); (try simp only [Nat.reduceAdd] at hd); (try simp only [Nat.reduceEqDiff] at hd); (try simp only [reduceIte] at hd); (try simp only [and_true] at hd); (try simp only [true_and] at hd); simp [yielded, hd]; done)))); (focus (intro u w1 hw hd; (try simp only [depH] at hd); (try simp only [ext] at hd); (try simp only [extU] at hd); (try simp only [Nat.reduceAdd] at hd); (try simp only [Nat.reduceEqDiff] at hd); (try simp only [reduceIte] at hd); (try simp only [and_true] at hd); (try simp only [true_and] at hd); have hc' := hw.cell; go_simp; exact rfl))) | ((with_reducible refine flow_skipg (j := ?_) (b := ?_) ?_ ?_ ?_); rotate_left 2; (focus (with_reducible rfl)); (focus (intro u w1 hw hd; (try simp only [depH] at hd); (try simp only [ext] at hd); (try simp only [extU] at hd); (try simp only [Nat.reduceAdd] at hd); (try simp only [Nat.reduceEqDiff] at hd); (try simp only [reduceIte] at hd); (try simp only [and_true] at hd); (try simp only [true_and] at hd); simp [yielded, hd]; done))) | ((with_reducible refine flow_alloc (t := ?_) (zs := ?_) ?_ ?_ ?_ ?_); rotate_left 2; (focus (with_reducible rfl)); (focus rfl); (focus (intro u w1; go_simp; exact rfl)))))
  (with_reducible refine flow_rel (Vi := VcQ qs) false ?_ ?_ ?_ ?_ ?_ ?_); (focus rfl); (focus rfl); (focus exact stable_vcq _); (focus exact placed_false _); (focus (intro u w1 hw hd; (try simp only [depH] at hd); (try simp only [ext] at hd); (try simp only [extU] at hd); (try simp only [Nat.reduceAdd] at hd); (try simp only [Nat.reduceEqDiff] at hd); (try simp only [reduceIte] at hd); (try simp only [and_true] at hd); (try simp only [true_and] at hd); have hc' := hw.cell; go_simp; (try simp only [okUpon]); go_at_call 75; ((with_reducible refine (cc _ (hin.call hw.ins.bel)).mono ?_)); rintro e w'' ⟨⟨v, rfl, hv⟩, hb⟩; exact ⟨v, rfl, ⟨hv, fun h => by cases h⟩, hb⟩))
  (with_reducible refine flow_rel (Vi := TupP P) false ?_ ?_ ?_ ?_ ?_ ?_); (focus rfl); (focus rfl); (focus exact stable_tupp hP); (focus exact placed_false _); (focus (intro u w1 hw hd; (try simp only [depH] at hd); (try simp only [ext] at hd); (try simp only [extU] at hd); (try simp only [Nat.reduceAdd] at hd); (try simp only [Nat.reduceEqDiff] at hd); (try simp only [reduceIte] at hd); (try simp only [and_true] at hd); (try simp only [true_and] at hd); obtain ⟨hd1, hd2, _⟩ := hd; have hc' := hw.cell; go_simp; (try simp only [okUpon]); go_at_call 74; ((with_reducible refine (hr _ _ (hin.call hw.ins.bel) hd2.v).mono ?_)); rintro e w'' ⟨⟨v, rfl, hv⟩, hb⟩; exact ⟨v, rfl, ⟨hv, fun h => by cases h⟩, hb⟩))
  (((with_reducible refine flow_link (k := 3) (R := FstS) ?_ ?_ ?_ ?_); (focus rfl); (focus rfl); (focus (intro u w1 hw hd; (try simp only [depH] at hd); (try simp only [ext] at hd); (try simp only [extU] at hd); (try simp only [Nat.reduceAdd] at hd); (try simp only [Nat.reduceEqDiff] at hd); (try simp only [reduceIte] at hd); (try simp only [and_true] at hd); (try simp only [true_and] at hd); obtain ⟨⟨a, l, k, e, h5⟩, _⟩ := hd; exact ⟨.slice a l k, fun w2 => (by go_simp), a, l, k, e, h5, rfl⟩))); ((with_reducible refine flow_link (k := 3) (R := SndS) ?_ ?_ ?_ ?_); (focus rfl); (focus rfl); (focus (intro u w1 hw hd; (try simp only [depH] at hd); (try simp only [ext] at hd); (try simp only [extU] at hd); (try simp only [Nat.reduceAdd] at hd); (try simp only [Nat.reduceEqDiff] at hd); (try simp only [reduceIte] at hd); (try simp only [and_true] at hd); (try simp only [true_and] at hd); obtain ⟨⟨a, l, k, e, h5⟩, _⟩ := hd; exact ⟨.int .i64 e, fun w2 => (by go_simp), a, l, k, e, h5, rfl⟩))))
  (try clear hc hf h); intro u w' h ha hdi; replace h := h.ins; (try simp only [World.size_alloc] at h); (try dsimp only at ha); (repeat rw [World.size_alloc] at ha); (try simp only [allH] at ha); (try simp only [ext] at ha); (try simp only [extU] at ha); (try simp only [Nat.reduceAdd] at ha); (try simp only [Nat.reduceEqDiff] at ha); (try simp only [reduceIte] at ha); (try simp only [and_true] at ha); (try simp only [true_and] at ha); have hc := h.cell; have hf := h.frozen
  obtain ⟨⟨⟨⟨ha, h2⟩, h3⟩, h4⟩, h5⟩ := ha
  obtain ⟨_, h6⟩ := h3
  obtain ⟨a4, l4, k4, e4, h7, h8⟩ := h4
  obtain ⟨a5, l5, k5, e5, h9, h10⟩ := h5
  rw [h7] at h9 h6
  simp only [Value.tuple.injEq, Array.mk.injEq, List.cons.injEq, Value.slice.injEq, Value.int.injEq, and_true, true_and] at h9
  obtain ⟨⟨rfl, rfl, rfl⟩, rfl⟩ := h9
  (try dsimp only)
  simp only [h8, h10]
  have hin3 := Lib.hid (hin.call h.bel)
  have HP := Lib.hid h6
  clear ha h2 h7 h8 h10 hdi hc hf h h6 hin s0 s1 s2 s3 sl
  go_wp2_with fail
  exact bodyPost_ret (v := .tuple #[.slice a4 l4 k4, .int .i64 e4]) (by simp [results, Tryz.results16, go_sem]) rfl ⟨⟨_, rfl, ⟨_, _, _, _, rfl⟩, HP.out⟩, hin3.out.bel⟩
theorem beg_zero {w : World} {n m : Int} {ra : Option Addr} {rl rc : Nat} {ba : Option Addr} {bn bc : Nat} {chk : Int} {sy : Bool} (hk : RawK w (.agg #[.int .i64 n, .int .i64 m, .slice ra rl rc]) chk sy) :
    Calls Tryz.prog 73 #[.agg #[.int .i64 n, .int .i64 m, .slice ra rl rc], .slice ba bn bc, .slice none 0 0] w fun e w' => e = .returned (.tuple #[if beginE chk sy [bn] n = 0 then .agg #[.int .i64 n, .int .i64 m, .slice ra rl rc, .slice ba bn bc] else zeroSys, .int .i64 (beginE chk sy [bn] n)]) ∧ Below w.heap.size w w' :=
  begin_none w n m ra rl rc ba bn bc chk sy hk.1 hk.2
set_option maxRecDepth 100000 in
set_option maxHeartbeats 2000000 in
theorem run_bad {E : Int} (w : World) (n m : Int) (ra : Option Addr) (rl rc : Nat) (ba : Option Addr) (bn bc : Nat) (chk : Int) (sy : Bool) (hk : RawK w (.agg #[.int .i64 n, .int .i64 m, .slice ra rl rc]) chk sy) (hE : beginE chk sy [bn] n = E) (h0 : E ≠ 0) :
    Calls Tryz.prog 34 #[.agg #[.int .i64 n, .int .i64 m, .slice ra rl rc], .slice ba bn bc] w fun e w' => e = .returned (.tuple #[.slice none 0 0, .int .i64 E]) ∧ Below w.heap.size w w' := by
  have cb := fun W (h : In w.heap.size w W) => beg_zero (w := W) (ba := ba) (bn := bn) (bc := bc) (hk.in h)
  simp only [hE, if_neg h0] at cb
  have h1 : (E != 0) = true := by simpa using h0
  clear hE h0 hk
  go_enter Tryz.func34, Tryz.ntmps34
  go_upto_region 1 with fail
  ((obtain ⟨X, hXX⟩ : ∃ z, z = w.heap.size := ⟨_, rfl⟩); (have bV0 := (Bx.new_at w #[.int .i64 n, .int .i64 m, .slice ra rl rc] 30 (n := X) (by simp [hXX]))); (have hV := ((In.self w).alloc (.cells #[.int .i64 n, .int .i64 m, .slice ra rl rc] 30))); (rw [← hXX] at hV ⊢); (have HX := Lib.hid hXX); (clear hXX); (generalize w.alloc (.cells #[.int .i64 n, .int .i64 m, .slice ra rl rc] 30) = V at *))
  have cb1 := cb V (by rw [HX.out] at hV; exact hV)
  have x0 := bV0.c0; have x1 := bV0.c1; have x2 := bV0.c2; have xl := bV0.lt
  go_wp2_with fail
  ((with_reducible refine cb1.mono ?_))
  rintro e w2 ⟨rfl, hb⟩
  have hin := hV.call hb
  clear hb hV bV0 cb cb1
  go_upto_region 2 with fail
  have hin2 := Lib.hid (hin.alloc (.cells #[.int .i64 0, .int .i64 0, .slice none 0 0, .slice none 0 0] 150))
  clear hin
  go_wp2_with fail
  exact bodyPost_ret (v := .tuple #[.slice none 0 0, .int .i64 E]) (by simp [results, Tryz.results34, go_sem]) rfl ⟨rfl, by rw [← HX.out]; exact hin2.out.bel⟩
set_option maxRecDepth 100000 in
set_option maxHeartbeats 2000000 in
theorem run_ok (w : World) (n : Nat) (m : Int) (ra : Option Addr) (rl rc : Nat) (ba : Option Addr) (bn bc : Nat) (chk : Int) (sy : Bool) (hk : RawK w (.agg #[.int .i64 n, .int .i64 m, .slice ra rl rc]) chk sy) (hE : beginE chk sy [bn] n = 0) (hq : n ≤ 4096) (P : Value → World → Prop) (hP : Stable P)
    (hr : ∀ W d, In w.heap.size w W → VecAt W d (List.replicate n 0) → Calls Tryz.prog 74 #[.agg #[.int .i64 n, .int .i64 m, .slice ra rl rc, .slice ba bn bc], d] W fun e w' => (∃ v, e = .returned v ∧ TupP P v w') ∧ Below W.heap.size W w') :
    Calls Tryz.prog 34 #[.agg #[.int .i64 n, .int .i64 m, .slice ra rl rc], .slice ba bn bc] w fun e w' => (∃ v, e = .returned v ∧ TupP P v w') ∧ Below w.heap.size w w' := by
  have HMK := Lib.hid (mk_vec n (by omega))
  have cb := fun W (h : In w.heap.size w W) => beg_zero (w := W) (ba := ba) (bn := bn) (bc := bc) (hk.in h)
  simp only [hE, if_pos] at cb
  clear hE hk
  go_enter Tryz.func34, Tryz.ntmps34
  go_upto_region 1 with fail
  ((obtain ⟨X, hXX⟩ : ∃ z, z = w.heap.size := ⟨_, rfl⟩); (have bV0 := (Bx.new_at w #[.int .i64 n, .int .i64 m, .slice ra rl rc] 30 (n := X) (by simp [hXX]))); (have hV := ((In.self w).alloc (.cells #[.int .i64 n, .int .i64 m, .slice ra rl rc] 30))); (rw [← hXX] at hV ⊢); (have HX := Lib.hid hXX); (clear hXX); (generalize w.alloc (.cells #[.int .i64 n, .int .i64 m, .slice ra rl rc] 30) = V at *))
  have cb1 := cb V (by rw [HX.out] at hV; exact hV)
  have x0 := bV0.c0; have x1 := bV0.c1; have x2 := bV0.c2; have xl := bV0.lt
  go_wp2_with fail
  ((with_reducible refine cb1.mono ?_))
  rintro e w2 ⟨rfl, hb⟩
  have hin := hV.call hb
  have bV0' := bV0
  clear hV bV0 cb cb1 x0 x1 x2 xl
  go_upto_region 2 with fail
  have bq := bV0'.call hb
  clear hb bV0'
  ((obtain ⟨S, hS⟩ : ∃ z, z = w2.heap.size := ⟨_, rfl⟩); (have bS := Bx.new_at w2 #[.int .i64 n, .int .i64 m, .slice ra rl rc, .slice ba bn bc] 150 hS); (replace hin := hin.alloc (.cells #[.int .i64 n, .int .i64 m, .slice ra rl rc, .slice ba bn bc] 150)); (replace bq := bq.alloc (.cells #[.int .i64 n, .int .i64 m, .slice ra rl rc, .slice ba bn bc] 150)); (rw [← hS]); (clear hS); (generalize w2.alloc (.cells #[.int .i64 n, .int .i64 m, .slice ra rl rc, .slice ba bn bc] 150) = V2 at *))
  have s0 := bS.c0; have s1 := bS.c1; have s2 := bS.c2; have s3 := bS.c3; have sl := bS.lt
  rw [HX.out] at hin
  have y0 := bq.c0; have y1 := bq.c1; have y2 := bq.c2; have yl := bq.lt
  clear bS bq
  go_upto_region 4 with fail
  have h := In.self V2
  have hc := h.cell
  refine wp_region_flow 7 (by kernel_rfl) (by kernel_rfl) (fun _ _ d _ _ h => by cases d <;> exact h) ?_; simp only [List.take_succ_cons, List.take_zero, List.drop_succ_cons, List.drop_zero]; simp only [putAll, Act.put, List.setIfInBounds_toArray, List.set]; (try simp only [Nat.reduceAdd]); (try simp only [Nat.zero_add]); (repeat (first | ((with_reducible refine flow_float (v := ?_) ?_ ?_ ?_); rotate_left 1; (focus (with_reducible rfl)); (focus (intro u w1 hw hd w2; (try simp only [depH] at hd); (try simp only [ext] at hd); (try simp only [extU] at hd); (try simp only [Nat.reduceAdd] at hd); (try simp only [Nat.reduceEqDiff] at hd); (try simp only [reduceIte] at hd); (try simp only [and_true] at hd); (try simp only [true_and] at hd); go_simp; exact rfl))) | ((first | ((with_reducible refine flow_pure0 (v := ?_) ?_ ?_ ?_ ?_); rotate_left 1; (focus (with_reducible rfl)); (focus rfl)) | ((with_reducible refine flow_pureg (v := ?_) (j := ?_) (b := ?_) ?_ ?_ ?_ ?_); rotate_left 3; (focus (with_reducible rfl)); (focus (intro u w1 hw hd; (try simp only [depH] at hd); (try simp only [ext] at hd); (try simp only [extU] at hd); (try simp only [Nat.reduceAdd] at hd); (try simp only [Nat.reduceEqDiff] at hd); (try simp only [reduceIte] at hd); (try simp only [and_true] at hd); (try simp only [true_and] at hd); simp [yielded, hd]; done)))); (focus (intro u w1 hw hd; (try simp only [depH] at hd); (try simp only [ext] at hd); (try simp only [extU] at hd); (try simp only [Nat.reduceAdd] at hd); (try simp only [Nat.reduceEqDiff] at hd); (try simp only [reduceIte] at hd); (try simp only [and_true] at hd); (try simp only [true_and] at hd); have hc' := hw.cell; go_simp; exact rfl))) | ((with_reducible refine flow_skipg (j := ?_) (b := ?_) ?_ ?_ ?_); rotate_left 2; (focus (with_reducible rfl)); (focus (intro u w1 hw hd; (try simp only [depH] at hd); (try simp only [ext] at hd); (try simp only [extU] at hd); (try simp only [Nat.reduceAdd] at hd); (try simp only [Nat.reduceEqDiff] at hd); (try simp only [reduceIte] at hd); (try simp only [and_true] at hd); (try simp only [true_and] at hd); simp [yielded, hd]; done))) | ((with_reducible refine flow_alloc (t := ?_) (zs := ?_) ?_ ?_ ?_ ?_); rotate_left 2; (focus (with_reducible rfl)); (focus rfl); (focus (intro u w1; go_simp; exact rfl)))))
  (with_reducible refine flow_rel (Vi := VcQ (List.replicate n 0)) false ?_ ?_ ?_ ?_ ?_ ?_); (focus rfl); (focus rfl); (focus exact stable_vcq _); (focus exact placed_false _); (focus (intro u w1 hw hd; (try simp only [depH] at hd); (try simp only [ext] at hd); (try simp only [extU] at hd); (try simp only [Nat.reduceAdd] at hd); (try simp only [Nat.reduceEqDiff] at hd); (try simp only [reduceIte] at hd); (try simp only [and_true] at hd); (try simp only [true_and] at hd); have hc' := hw.cell; have hmk := HMK.out w1; go_simp; (try simp only [okUpon]); exact ⟨⟨(VBx.made w1 n).at n List.length_replicate.symm n, fun h => by cases h⟩, (Below.refl _ _).alloc (Nat.le_refl _) _⟩))
  (with_reducible refine flow_rel (Vi := TupP P) false ?_ ?_ ?_ ?_ ?_ ?_); (focus rfl); (focus rfl); (focus exact stable_tupp hP); (focus exact placed_false _); (focus (intro u w1 hw hd; (try simp only [depH] at hd); (try simp only [ext] at hd); (try simp only [extU] at hd); (try simp only [Nat.reduceAdd] at hd); (try simp only [Nat.reduceEqDiff] at hd); (try simp only [reduceIte] at hd); (try simp only [and_true] at hd); (try simp only [true_and] at hd); obtain ⟨hd1, hd2⟩ := hd; have hc' := hw.cell; go_simp; (try simp only [okUpon]); go_at_call 74; ((with_reducible refine (hr _ _ (hin.call hw.ins.bel) hd2.v).mono ?_)); rintro e w'' ⟨⟨v, rfl, hv⟩, hb⟩; exact ⟨v, rfl, ⟨hv, fun h => by cases h⟩, hb⟩))
  (((with_reducible refine flow_link (k := 4) (R := FstS) ?_ ?_ ?_ ?_); (focus rfl); (focus rfl); (focus (intro u w1 hw hd; (try simp only [depH] at hd); (try simp only [ext] at hd); (try simp only [extU] at hd); (try simp only [Nat.reduceAdd] at hd); (try simp only [Nat.reduceEqDiff] at hd); (try simp only [reduceIte] at hd); (try simp only [and_true] at hd); (try simp only [true_and] at hd); obtain ⟨⟨a, l, k, e, h5⟩, _⟩ := hd; exact ⟨.slice a l k, fun w2 => (by go_simp), a, l, k, e, h5, rfl⟩))); ((with_reducible refine flow_link (k := 4) (R := SndS) ?_ ?_ ?_ ?_); (focus rfl); (focus rfl); (focus (intro u w1 hw hd; (try simp only [depH] at hd); (try simp only [ext] at hd); (try simp only [extU] at hd); (try simp only [Nat.reduceAdd] at hd); (try simp only [Nat.reduceEqDiff] at hd); (try simp only [reduceIte] at hd); (try simp only [and_true] at hd); (try simp only [true_and] at hd); obtain ⟨⟨a, l, k, e, h5⟩, _⟩ := hd; exact ⟨.int .i64 e, fun w2 => (by go_simp), a, l, k, e, h5, rfl⟩))))
  (try clear hc hf h); intro u w' h ha hdi; replace h := h.ins; (try simp only [World.size_alloc] at h); (try dsimp only at ha); (repeat rw [World.size_alloc] at ha); (try simp only [allH] at ha); (try simp only [ext] at ha); (try simp only [extU] at ha); (try simp only [Nat.reduceAdd] at ha); (try simp only [Nat.reduceEqDiff] at ha); (try simp only [reduceIte] at ha); (try simp only [and_true] at ha); (try simp only [true_and] at ha); have hc := h.cell; have hf := h.frozen
  obtain ⟨⟨⟨⟨ha, h2⟩, h3⟩, h4⟩, h5⟩ := ha
  obtain ⟨_, h6⟩ := h3
  obtain ⟨a4, l4, k4, e4, h7, h8⟩ := h4
  obtain ⟨a5, l5, k5, e5, h9, h10⟩ := h5
  rw [h7] at h9 h6
  simp only [Value.tuple.injEq, Array.mk.injEq, List.cons.injEq, Value.slice.injEq, Value.int.injEq, and_true, true_and] at h9
  obtain ⟨⟨rfl, rfl, rfl⟩, rfl⟩ := h9
  (try dsimp only)
  simp only [h8, h10]
  have hin3 := Lib.hid (hin.call h.bel)
  have HP := Lib.hid h6
  clear ha h2 h7 h8 h10 hdi hc hf h h6 hin s0 s1 s2 s3 sl y0 y1 y2 yl
  go_wp2_with fail
  exact bodyPost_ret (v := .tuple #[.slice a4 l4 k4, .int .i64 e4]) (by simp [results, Tryz.results34, go_sem]) rfl ⟨⟨_, rfl, ⟨_, _, _, _, rfl⟩, HP.out⟩, hin3.out.bel⟩
set_option maxRecDepth 100000 in
set_option maxHeartbeats 2000000 in
theorem solve_bad {E : Int} (w : World) (n m : Int) (ra : Option Addr) (rl rc : Nat) (b : Value) (h0 : E ≠ 0)
    (hr : ∀ W, In w.heap.size w W → Calls Tryz.prog 34 #[.agg #[.int .i64 n, .int .i64 m, .slice ra rl rc], b] W fun e w' => e = .returned (.tuple #[.slice none 0 0, .int .i64 E]) ∧ Below W.heap.size W w') :
    Calls Tryz.prog 39 #[.agg #[.int .i64 n, .int .i64 m, .slice ra rl rc], b] w fun e w' => e = .returned (.tuple #[.slice none 0 0, .int .i64 E]) ∧ Below w.heap.size w w' := by
  have h1 : (E != 0) = true := by simpa using h0
  clear h0
  go_enter Tryz.func39, Tryz.ntmps39
  go_upto_region 1 with fail
  ((obtain ⟨X, hXX⟩ : ∃ z, z = w.heap.size := ⟨_, rfl⟩); (have bV0 := (Bx.new_at w #[.int .i64 n, .int .i64 m, .slice ra rl rc] 30 (n := X) (by simp [hXX]))); (have hV := ((In.self w).alloc (.cells #[.int .i64 n, .int .i64 m, .slice ra rl rc] 30))); (rw [← hXX] at hV ⊢); (have HX := Lib.hid hXX); (clear hXX); (generalize w.alloc (.cells #[.int .i64 n, .int .i64 m, .slice ra rl rc] 30) = V at *))
  rw [HX.out] at hV
  have cb1 := hr V hV
  have x0 := bV0.c0; have x1 := bV0.c1; have x2 := bV0.c2; have xl := bV0.lt
  go_wp2_with fail
  ((with_reducible refine cb1.mono ?_))
  rintro e w2 ⟨rfl, hb⟩
  have hin := hV.call hb
  clear hb hV bV0 hr cb1
  go_wp2_with fail
  exact bodyPost_ret (v := .tuple #[.slice none 0 0, .int .i64 E]) (by simp [results, Tryz.results39, go_sem]) rfl ⟨rfl, hin.bel⟩
set_option maxRecDepth 100000 in
set_option maxHeartbeats 2000000 in
theorem solve_ok {k j : Nat} {F : Nat → StepD} (w : World) (n m : Int) (ra : Option Addr) (rl rc : Nat) (b : Value) (hj : j ≤ 100)
    (hr : ∀ W, In w.heap.size w W → Calls Tryz.prog 34 #[.agg #[.int .i64 n, .int .i64 m, .slice ra rl rc], b] W fun e w' => (∃ v, e = .returned (.tuple #[v, .int .i64 0]) ∧ StepsAt w' v k (j + 1) F) ∧ Below W.heap.size W w') :
    Calls Tryz.prog 39 #[.agg #[.int .i64 n, .int .i64 m, .slice ra rl rc], b] w fun e w' => (∃ d, e = .returned (.tuple #[d, .int .i64 0]) ∧ VecAt w' d (vl k (F j).x)) ∧ Below w.heap.size w w' := by
  go_enter Tryz.func39, Tryz.ntmps39
  go_upto_region 1 with fail
  ((obtain ⟨X, hXX⟩ : ∃ z, z = w.heap.size := ⟨_, rfl⟩); (have bV0 := (Bx.new_at w #[.int .i64 n, .int .i64 m, .slice ra rl rc] 30 (n := X) (by simp [hXX]))); (have hV := ((In.self w).alloc (.cells #[.int .i64 n, .int .i64 m, .slice ra rl rc] 30))); (rw [← hXX] at hV ⊢); (have HX := Lib.hid hXX); (clear hXX); (generalize w.alloc (.cells #[.int .i64 n, .int .i64 m, .slice ra rl rc] 30) = V at *))
  rw [HX.out] at hV
  have cb1 := hr V hV
  have x0 := bV0.c0; have x1 := bV0.c1; have x2 := bV0.c2; have xl := bV0.lt
  go_wp2_with fail
  ((with_reducible refine cb1.mono ?_))
  rintro e w2 ⟨⟨v, rfl, hs⟩, hb⟩
  have hin := Lib.hid (hV.call hb)
  clear hb hV bV0 hr cb1
  obtain ⟨a, cap, rfl, hs⟩ := hs
  obtain ⟨b2, off, xv, rv, pv, rfl, hbs, hc, hx, _⟩ := hs j (by omega)
  have hc0 := hc 0 (by decide)
  simp only [stc, List.getElem?_cons_zero, Nat.add_zero] at hc0
  obtain ⟨xa, xk, rfl⟩ := hx.shape
  rw [vl_length] at hx hc0
  have HV := Lib.hid hx
  have hw1 : IntKind.i64.wrap (((j + 1 : Nat) : Int) - 1) = (j : Int) := by
    rw [show (((j + 1 : Nat) : Int) - 1) = (j : Int) by omega]; exact IntWalk.i64_in _ (by omega)
  have hw2 : (j : Int) < ((j + 1 : Nat) : Int) := by omega
  have hw3 : (0 : Int) ≤ j := by omega
  have hw4 : ((j : Int)).toNat = j := rfl
  clear hs hc hx
  go_wp2_with fail
  exact bodyPost_ret (v := .tuple #[.slice xa k xk, .int .i64 0]) (by simp [results, Tryz.results39, go_sem]) rfl ⟨⟨_, rfl, HV.out⟩, hin.out.bel⟩
end Gus
end
section
/- Arguments: additions of the statements (positions and fractions), and matrices of them. -/
namespace Gus
open Go Go.RowKit Go.Proofs Go.ChangeShapes Go.WideShapes Go.ChangeAt Go.Deep
/-- a value at a position: row, column, numerator, denominator -/
abbrev TQ := Nat × Nat × Int × Int
def TAt (w : World) (a : Option Addr) (l : List TQ) : Prop := ∀ k, k < l.length → ∃ b off, a = some ⟨b, off, none⟩ ∧ b < w.heap.size ∧ w.cell? ⟨b, off + k * 4, none⟩ = some (.int .u8 (l.getD k (0, 0, 0, 0)).1) ∧ w.cell? ⟨b, off + k * 4 + 1, none⟩ = some (.int .u8 (l.getD k (0, 0, 0, 0)).2.1) ∧
  w.cell? ⟨b, off + k * 4 + 2, none⟩ = some (.int .i64 (l.getD k (0, 0, 0, 0)).2.2.1) ∧ w.cell? ⟨b, off + k * 4 + 3, none⟩ = some (.int .u32 (l.getD k (0, 0, 0, 0)).2.2.2)
theorem TAt.call {w w' : World} {a : Option Addr} {l : List TQ} (h : TAt w a l) (hb : Below w.heap.size w w') : TAt w' a l := fun k hk => by
  obtain ⟨b, off, h1, h2, c0, c1, c2, c3⟩ := h k hk
  exact ⟨b, off, h1, Nat.lt_of_lt_of_le h2 hb.size, by rw [hb.cell (p := ⟨b, off + k * 4, none⟩) h2]; exact c0, by rw [hb.cell (p := ⟨b, off + k * 4 + 1, none⟩) h2]; exact c1,
    by rw [hb.cell (p := ⟨b, off + k * 4 + 2, none⟩) h2]; exact c2, by rw [hb.cell (p := ⟨b, off + k * 4 + 3, none⟩) h2]; exact c3⟩
section
variable {H : Type} {enc : TypeId × Value → H} {W : World} {base : Nat} {sp : Nat → Bool} {held : Bool}
end
end Gus
end
section
/- gussetlaw19.near, small; gussetlaw16.(S).Size, (T).position. -/
namespace Gus
open Go Go.RowKit Go.Proofs
def nearQ (x : Int × Int) : Bool := decide (-1000 ≤ x.1) && (decide (x.1 ≤ 1000) && decide (x.2 ≤ 1000))
set_option maxRecDepth 100000 in
theorem near_any (n d : Int) (w : World) :
    Calls Tryz.prog 68 #[.agg #[.int .i64 n, .int .u32 d]] w fun e w' => e = .returned (.bool (nearQ (n, d))) ∧ Below w.heap.size w w' := by
  unfold nearQ
  by_cases h1 : -1000 ≤ n
  · by_cases h2 : n ≤ 1000
    · by_cases h3 : d ≤ 1000
      · go_enter Tryz.func68, Tryz.ntmps68
        go_wp2_with fail
        go_ret
        exact ⟨by simp [h1, h2, h3], by (refine In.bel ?_; (repeat (first | (refine In.setCell ?_ (by first | omega | (simp; done) | (simp; omega)) _) | (refine In.alloc ?_ _) | (refine In.drew ?_))); (first | exact In.self _ | (refine In.out h ?_ (by first | omega | (simp; done) | (simp; omega)); (repeat (first | (refine In.setCell ?_ (by first | omega | (simp; done) | (simp; omega)) _) | (refine In.alloc ?_ _) | (refine In.drew ?_))); exact In.self _)))⟩
      · go_enter Tryz.func68, Tryz.ntmps68
        go_wp2_with fail
        go_ret
        exact ⟨by simp [h3], by (refine In.bel ?_; (repeat (first | (refine In.setCell ?_ (by first | omega | (simp; done) | (simp; omega)) _) | (refine In.alloc ?_ _) | (refine In.drew ?_))); (first | exact In.self _ | (refine In.out h ?_ (by first | omega | (simp; done) | (simp; omega)); (repeat (first | (refine In.setCell ?_ (by first | omega | (simp; done) | (simp; omega)) _) | (refine In.alloc ?_ _) | (refine In.drew ?_))); exact In.self _)))⟩
    · have H2 := Lib.hid h2
      go_enter Tryz.func68, Tryz.ntmps68
      go_wp2_with fail
      go_ret
      exact ⟨by rw [show decide (n ≤ 1000) = false from decide_eq_false (by have := H2.out; omega)]; simp, by (refine In.bel ?_; (repeat (first | (refine In.setCell ?_ (by first | omega | (simp; done) | (simp; omega)) _) | (refine In.alloc ?_ _) | (refine In.drew ?_))); (first | exact In.self _ | (refine In.out h ?_ (by first | omega | (simp; done) | (simp; omega)); (repeat (first | (refine In.setCell ?_ (by first | omega | (simp; done) | (simp; omega)) _) | (refine In.alloc ?_ _) | (refine In.drew ?_))); exact In.self _)))⟩
  · have H1 := Lib.hid h1
    go_enter Tryz.func68, Tryz.ntmps68
    go_wp2_with fail
    go_ret
    exact ⟨by rw [show decide (-1000 ≤ n) = false from decide_eq_false (by have := H1.out; omega)]; simp, by (refine In.bel ?_; (repeat (first | (refine In.setCell ?_ (by first | omega | (simp; done) | (simp; omega)) _) | (refine In.alloc ?_ _) | (refine In.drew ?_))); (first | exact In.self _ | (refine In.out h ?_ (by first | omega | (simp; done) | (simp; omega)); (repeat (first | (refine In.setCell ?_ (by first | omega | (simp; done) | (simp; omega)) _) | (refine In.alloc ?_ _) | (refine In.drew ?_))); exact In.self _)))⟩
end Gus
end
section
/- gussetlaw19.small. -/
namespace Gus
open Go Go.RowKit Go.Proofs
/-- a slice of vectors of fractions as the statements take them -/
def QsAt (w : World) (a : Option Addr) (vs : List (List (Int × Int))) : Prop :=
  ∀ i, i < vs.length → ∃ b off va vc, a = some ⟨b, off, none⟩ ∧ b < w.heap.size ∧ w.cell? ⟨b, off + i, none⟩ = some (.slice va (vs.getD i []).length vc) ∧ QAt w va (vs.getD i [])
theorem QsAt.call {w w' : World} {a : Option Addr} {vs : List (List (Int × Int))} (h : QsAt w a vs) (hb : Below w.heap.size w w') : QsAt w' a vs := fun i hi => by
  obtain ⟨b, off, va, vc, h1, h2, h3, h4⟩ := h i hi
  exact ⟨b, off, va, vc, h1, Nat.lt_of_lt_of_le h2 hb.size, by rw [hb.cell (p := ⟨b, off + i, none⟩) h2]; exact h3, h4.call hb⟩
def smallV (q : List (Int × Int)) : Bool := decide (q.length ≤ 12) && q.all nearQ
def smallT (l : List TQ) (vs : List (List (Int × Int))) : Bool := decide (l.length ≤ 30) && (l.all (fun t => nearQ t.2.2) && vs.all smallV)
set_option maxRecDepth 100000 in
set_option maxHeartbeats 4000000 in
theorem small_any (w : World) (N : Int) (la : Option Addr) (lc : Nat) (l : List TQ) (va : Option Addr) (vc : Nat) (vs : List (List (Int × Int))) (hl : TAt w la l) (hv : QsAt w va vs) (_hl2 : l.length ≤ maxLen) (hv2 : vs.length ≤ 4096) (hv3 : ∀ q ∈ vs, q.length ≤ maxLen) :
    Calls Tryz.prog 12 #[.agg #[.int .u8 N, .slice la l.length lc], .slice va vs.length vc] w fun e w' => e = .returned (.bool (smallT l vs)) ∧ Below w.heap.size w w' := by
  obtain ⟨R, hR⟩ : ∃ R, R = smallT l vs := ⟨_, rfl⟩
  obtain ⟨L, hL⟩ : ∃ L, L = l.length := ⟨_, rfl⟩
  obtain ⟨K, hK⟩ : ∃ K, K = vs.length := ⟨_, rfl⟩
  rw [← hR, ← hL, ← hK]
  unfold smallT at hR
  rw [← hL] at hR _hl2
  rw [← hK] at hv2
  have HR := Lib.hid hR
  have HL := Lib.hid hL
  have HK := Lib.hid hK
  have HT := Lib.hid hl
  have HV := Lib.hid hv
  have HV3 := Lib.hid hv3
  clear hR hL hK hl hv hv3
  by_cases h30 : L ≤ 30
  · have h30i : ¬ (30 : Int) < L := by omega
    have hr1 := HR.out
    rw [decide_eq_true h30, Bool.true_and] at hr1
    have HR1 := Lib.hid hr1
    clear hr1 HR
    go_enter Tryz.func12, Tryz.ntmps12
    go_upto_region 1 with fail
    ((obtain ⟨X, hXX⟩ : ∃ z, z = w.heap.size := ⟨_, rfl⟩); (have bV0 := (Bx.new_at w #[.int .u8 N, .slice la L lc] 24 (n := X) (by simp [hXX]))); (have hV := ((In.self w).alloc (.cells #[.int .u8 N, .slice la L lc] 24))); (rw [← hXX] at hV ⊢); (have HX := Lib.hid hXX); (clear hXX); (generalize w.alloc (.cells #[.int .u8 N, .slice la L lc] 24) = V at *))
    have x0 := bV0.c0; have x1 := bV0.c1; have xl := bV0.lt
    go_wp2_with fail
    go_loopw [5] (fun v5 wr => ∃ i : Nat, i ≤ L ∧ v5 = .int .i64 i ∧ In X w wr ∧ Bx wr X 24 [.int .u8 N, .slice la L lc] ∧ Hid (l.all (fun t => nearQ t.2.2) = (l.drop i).all (fun t => nearQ t.2.2))) (fun v5 _ => L - (RowKit.intOf v5).toNat)
    case atStart => exact ⟨0, Nat.zero_le _, rfl, hV, bV0, Lib.hid rfl⟩
    case round =>
      obtain ⟨i, hi, rfl, hin, bx, HA⟩ := hrel
      clear x0 x1 xl bV0 hV
      by_cases hiL : i < L
      · obtain ⟨b, off, rfl, hb, _, _, hc2, hc3⟩ := HT.out i (by rw [← HL.out]; exact hiL)
        have hd := drop_getD l (0, 0, 0, 0) (show i < l.length by rw [← HL.out]; exact hiL)
        obtain ⟨⟨t1, t2, q, d⟩, hx⟩ : ∃ x, x = l.getD i (0, 0, 0, 0) := ⟨_, rfl⟩
        rw [← hx] at hd hc2 hc3
        rw [← hin.cell b _ (by rw [HX.out]; exact hb)] at hc2 hc3
        dsimp only at hc2 hc3
        have ha := HA.out
        rw [hd, List.all_cons] at ha
        have hcon := near_any q d wr
        obtain ⟨y, hy⟩ : ∃ y, y = nearQ (q, d) := ⟨_, rfl⟩
        dsimp only at ha
        rw [← hy] at hcon ha
        have HAA := Lib.hid ha
        have hiI : (i : Int) < L := by omega
        have hi0 : (0 : Int) ≤ i := by omega
        have hiw : IntKind.i64.wrap ((i : Int) + 1) = ((i + 1 : Nat) : Int) := IntWalk.i64_in _ (by omega)
        have hbw : b < wr.heap.size := by have := hin.siz; rw [HX.out] at this; omega
        have x0 := bx.c0; have x1 := bx.c1; have xl := bx.lt
        clear hd hx hy ha HA
        rcases y with _ | _
        · go_wp2_with fail
          ((with_reducible refine hcon.mono ?_))
          rintro e w2 ⟨rfl, hb2⟩
          have hin2 := hin.call hb2
          clear hb2 hcon hc2 hc3 hbw hin bx x0 x1 xl
          go_wp2_with fail
          go_ret
          exact ⟨(show Ending.returned (.bool false) = .returned (.bool R) by rw [HR1.out, HAA.out, Bool.false_and, Bool.false_and]), by rw [← HX.out]; exact hin2.bel⟩
        · go_wp2_with fail
          ((with_reducible refine hcon.mono ?_))
          rintro e w2 ⟨rfl, hb2⟩
          have hin2 := hin.call hb2
          have bx2 := bx.call hb2
          clear hb2 hcon hc2 hc3 hbw hin bx x0 x1 xl
          go_wp2_with fail
          exact ⟨⟨i + 1, by omega, by go_num, hin2, bx2, Lib.hid (by rw [HAA.out, Bool.true_and])⟩, by simp [RowKit.intOf]; omega⟩
      · have hiI : ¬ (i : Int) < L := by omega
        have ha := HA.out
        rw [List.drop_eq_nil_of_le (by rw [← HL.out]; omega)] at ha
        have hr2 := HR1.out
        rw [ha, List.all_nil, Bool.true_and] at hr2
        have HR2 := Lib.hid hr2
        have x0 := bx.c0; have x1 := bx.c1; have xl := bx.lt
        clear ha HA hr2 HR1
        go_wp2_with fail
        go_loopw [6] (fun v6 wr => ∃ i : Nat, i ≤ K ∧ v6 = .int .i64 i ∧ In X w wr ∧ Hid (R = (vs.drop i).all smallV)) (fun v6 _ => K - (RowKit.intOf v6).toNat)
        case atStart => exact ⟨0, Nat.zero_le _, rfl, hin, HR2⟩
        case round =>
          obtain ⟨i, hi, rfl, hin, HA⟩ := hrel
          clear x0 x1 xl
          by_cases hiK : i < K
          · obtain ⟨b, off, sa, sc, rfl, hb, hc, hq⟩ := HV.out i (by rw [← HK.out]; exact hiK)
            have hd := drop_getD vs [] (show i < vs.length by rw [← HK.out]; exact hiK)
            have hql := HV3.out (vs.getD i []) (by rw [List.getD_eq_getElem?_getD, List.getElem?_eq_getElem (show i < vs.length by rw [← HK.out]; exact hiK)]; exact List.getElem_mem _)
            obtain ⟨qs, hx⟩ : ∃ x, x = vs.getD i [] := ⟨_, rfl⟩
            rw [← hx] at hd hc hq hql
            have ha := HA.out
            rw [hd, List.all_cons] at ha
            obtain ⟨M, hM⟩ : ∃ M, M = qs.length := ⟨_, rfl⟩
            rw [← hM] at hc hql
            have hsv : smallV qs = (decide (M ≤ 12) && qs.all nearQ) := by unfold smallV; rw [hM]
            rw [hsv] at ha
            have HAA := Lib.hid ha
            have HQ := Lib.hid hq
            have HM := Lib.hid hM
            have HC := Lib.hid (show b < w.heap.size ∧ World.cell? w ⟨b, off + i, none⟩ = some (.slice sa M sc) from ⟨hb, hc⟩)
            have hc' := hc
            rw [← hin.cell b _ (by rw [HX.out]; exact hb)] at hc'
            have hiI : (i : Int) < K := by omega
            have hi0 : (0 : Int) ≤ i := by omega
            have hiw : IntKind.i64.wrap ((i : Int) + 1) = ((i + 1 : Nat) : Int) := IntWalk.i64_in _ (by omega)
            have hbw : b < wr.heap.size := by have := hin.siz; rw [HX.out] at this; omega
            clear hd hx ha HA hsv hq hc hM
            by_cases h12 : M ≤ 12
            · have h12i : ¬ (12 : Int) < M := by omega
              have ha := HAA.out
              rw [decide_eq_true h12, Bool.true_and] at ha
              have HAB := Lib.hid ha
              clear ha HAA
              go_wp2_with fail
              go_loopw [7] (fun v7 wr => ∃ k : Nat, k ≤ M ∧ v7 = .int .i64 k ∧ In X w wr ∧ Hid (qs.all nearQ = (qs.drop k).all nearQ)) (fun v7 _ => M - (RowKit.intOf v7).toNat)
              case atStart => exact ⟨0, Nat.zero_le _, rfl, hin, Lib.hid rfl⟩
              case round =>
                clear hc' hbw hin
                obtain ⟨k, hk, rfl, hin, HA⟩ := hrel
                have hc' := HC.out.2
                rw [← hin.cell b _ (by rw [HX.out]; exact HC.out.1)] at hc'
                have hbw : b < wr.heap.size := by have := hin.siz; have := HC.out.1; rw [HX.out] at *; omega
                by_cases hkM : k < M
                · obtain ⟨b2, off2, rfl, hb2, hc2, hc3⟩ := HQ.out k (by rw [← HM.out]; exact hkM)
                  have hd := drop_getD qs (0, 0) (show k < qs.length by rw [← HM.out]; exact hkM)
                  obtain ⟨⟨q, d⟩, hx⟩ : ∃ x, x = qs.getD k (0, 0) := ⟨_, rfl⟩
                  rw [← hx] at hd hc2 hc3
                  rw [← hin.cell b2 _ (by rw [HX.out]; exact hb2)] at hc2 hc3
                  dsimp only at hc2 hc3
                  have ha := HA.out
                  rw [hd, List.all_cons] at ha
                  have hcon := near_any q d wr
                  obtain ⟨y, hy⟩ : ∃ y, y = nearQ (q, d) := ⟨_, rfl⟩
                  rw [← hy] at hcon ha
                  have HAC := Lib.hid ha
                  have hkI : (k : Int) < M := by omega
                  have hk0 : (0 : Int) ≤ k := by omega
                  have hkw : IntKind.i64.wrap ((k : Int) + 1) = ((k + 1 : Nat) : Int) := IntWalk.i64_in _ (by omega)
                  have hbw2 : b2 < wr.heap.size := by have := hin.siz; rw [HX.out] at this; omega
                  have hmul : k * 2 = 2 * k := Nat.mul_comm _ _
                  clear hd hx hy ha HA
                  rcases y with _ | _
                  · go_wp2_with fail
                    ((with_reducible refine hcon.mono ?_))
                    rintro e w2 ⟨rfl, hb2⟩
                    have hin2 := hin.call hb2
                    clear hb2 hcon hc2 hc3 hbw hbw2 hc' hin
                    go_wp2_with fail
                    go_ret
                    exact ⟨(show Ending.returned (.bool false) = .returned (.bool R) by rw [HAB.out, HAC.out, Bool.false_and, Bool.false_and]), by rw [← HX.out]; exact hin2.bel⟩
                  · go_wp2_with fail
                    ((with_reducible refine hcon.mono ?_))
                    rintro e w2 ⟨rfl, hb2⟩
                    have hin2 := hin.call hb2
                    clear hb2 hcon hc2 hc3 hbw hbw2 hc' hin
                    go_wp2_with fail
                    exact ⟨⟨k + 1, by omega, by go_num, hin2, Lib.hid (by rw [HAC.out, Bool.true_and])⟩, by simp [RowKit.intOf]; omega⟩
                · have hkI : ¬ (k : Int) < M := by omega
                  have ha := HA.out
                  rw [List.drop_eq_nil_of_le (by rw [← HM.out]; omega)] at ha
                  have hb3 := HAB.out
                  rw [ha, List.all_nil, Bool.true_and] at hb3
                  have HB3 := Lib.hid hb3
                  clear ha HA hb3
                  go_wp2_with fail
                  exact ⟨⟨i + 1, by omega, by go_num, hin, HB3⟩, by simp [RowKit.intOf]; omega⟩
            · have h12i : (12 : Int) < M := by omega
              have ha := HAA.out
              rw [decide_eq_false h12, Bool.false_and, Bool.false_and] at ha
              have HAB := Lib.hid ha
              clear ha HAA
              go_wp2_with fail
              go_ret
              exact ⟨(show Ending.returned (.bool false) = .returned (.bool R) by rw [HAB.out]), by rw [← HX.out]; exact hin.bel⟩
          · have hiI : ¬ (i : Int) < K := by omega
            have ha := HA.out
            rw [List.drop_eq_nil_of_le (by rw [← HK.out]; omega)] at ha
            have HAA := Lib.hid ha
            clear ha HA
            go_wp2_with fail
            go_ret
            exact ⟨(show Ending.returned (.bool true) = .returned (.bool R) by rw [HAA.out]; rfl), by rw [← HX.out]; exact hin.bel⟩
  · have h30i : (30 : Int) < L := by omega
    have hr1 := HR.out
    rw [decide_eq_false h30, Bool.false_and] at hr1
    have HR1 := Lib.hid hr1
    clear hr1 HR
    go_enter Tryz.func12, Tryz.ntmps12
    go_upto_region 1 with fail
    ((obtain ⟨X, hXX⟩ : ∃ z, z = w.heap.size := ⟨_, rfl⟩); (have bV0 := (Bx.new_at w #[.int .u8 N, .slice la L lc] 24 (n := X) (by simp [hXX]))); (have hV := ((In.self w).alloc (.cells #[.int .u8 N, .slice la L lc] 24))); (rw [← hXX] at hV ⊢); (have HX := Lib.hid hXX); (clear hXX); (generalize w.alloc (.cells #[.int .u8 N, .slice la L lc] 24) = V at *))
    have x0 := bV0.c0; have x1 := bV0.c1; have xl := bV0.lt
    go_wp2_with fail
    go_ret
    exact ⟨(show Ending.returned (.bool false) = .returned (.bool R) by rw [HR1.out]), by rw [← HX.out]; exact hV.bel⟩
end Gus
end
section
/- (gussetlaw16.S).Symm. -/
namespace Gus
open Go Go.RowKit Go.Proofs
theorem BB.mono {w : World} {p b n n' N M : Nat} {f : Nat → Nat → Rat} (h : BB w p b n N M f) (hn : n ≤ n') : BB w p b n' N M f := ⟨h.1, h.2.mono hn⟩
end Gus
end
section
/- gussetlaw19.goes. -/
namespace Gus
open Go Go.RowKit Go.Proofs
def lgoesB (g e : Int) : Bool := decide (g = e) || (decide (e = 0) && decide (g = 11))
set_option maxRecDepth 100000 in
theorem lgoes_any (g e : Int) (w : World) :
    Calls Tryz.prog 40 #[.int .i64 g, .int .i64 e] w fun r w' => r = .returned (.bool (lgoesB g e)) ∧ Below w.heap.size w w' := by
  by_cases h1 : g = e
  · have hR : lgoesB g e = true := by unfold lgoesB; rw [decide_eq_true h1, Bool.true_or]
    rw [hR]
    subst h1
    clear hR
    go_enter Tryz.func40, Tryz.ntmps40
    go_wp2_with fail
    go_ret
    exact ⟨rfl, by (refine In.bel ?_; (repeat (first | (refine In.setCell ?_ (by first | omega | (simp; done) | (simp; omega)) _) | (refine In.alloc ?_ _) | (refine In.drew ?_))); (first | exact In.self _ | (refine In.out h ?_ (by first | omega | (simp; done) | (simp; omega)); (repeat (first | (refine In.setCell ?_ (by first | omega | (simp; done) | (simp; omega)) _) | (refine In.alloc ?_ _) | (refine In.drew ?_))); exact In.self _)))⟩
  · have b1 : (g == e) = false := beq_eq_false_iff_ne.2 h1
    by_cases h2 : e = 0
    · subst h2
      by_cases h3 : g = 11
      · subst h3
        rw [show lgoesB 11 0 = true from rfl]
        go_enter Tryz.func40, Tryz.ntmps40
        go_wp2_with fail
        go_ret
        exact ⟨rfl, by (refine In.bel ?_; (repeat (first | (refine In.setCell ?_ (by first | omega | (simp; done) | (simp; omega)) _) | (refine In.alloc ?_ _) | (refine In.drew ?_))); (first | exact In.self _ | (refine In.out h ?_ (by first | omega | (simp; done) | (simp; omega)); (repeat (first | (refine In.setCell ?_ (by first | omega | (simp; done) | (simp; omega)) _) | (refine In.alloc ?_ _) | (refine In.drew ?_))); exact In.self _)))⟩
      · have hR : lgoesB g 0 = false := by unfold lgoesB; rw [decide_eq_false h1, decide_eq_false h3]; rfl
        rw [hR]
        have b3 : (g == 11) = false := beq_eq_false_iff_ne.2 h3
        clear hR
        go_enter Tryz.func40, Tryz.ntmps40
        go_wp2_with fail
        go_ret
        exact ⟨rfl, by (refine In.bel ?_; (repeat (first | (refine In.setCell ?_ (by first | omega | (simp; done) | (simp; omega)) _) | (refine In.alloc ?_ _) | (refine In.drew ?_))); (first | exact In.self _ | (refine In.out h ?_ (by first | omega | (simp; done) | (simp; omega)); (repeat (first | (refine In.setCell ?_ (by first | omega | (simp; done) | (simp; omega)) _) | (refine In.alloc ?_ _) | (refine In.drew ?_))); exact In.self _)))⟩
    · have hR : lgoesB g e = false := by unfold lgoesB; rw [decide_eq_false h1, decide_eq_false h2]; rfl
      rw [hR]
      have b2 : (e == 0) = false := beq_eq_false_iff_ne.2 h2
      clear hR
      go_enter Tryz.func40, Tryz.ntmps40
      go_wp2_with fail
      go_ret
      exact ⟨rfl, by (refine In.bel ?_; (repeat (first | (refine In.setCell ?_ (by first | omega | (simp; done) | (simp; omega)) _) | (refine In.alloc ?_ _) | (refine In.drew ?_))); (first | exact In.self _ | (refine In.out h ?_ (by first | omega | (simp; done) | (simp; omega)); (repeat (first | (refine In.setCell ?_ (by first | omega | (simp; done) | (simp; omega)) _) | (refine In.alloc ?_ _) | (refine In.drew ?_))); exact In.self _)))⟩
end Gus
end
section
/- gussetlaw19.values. -/
namespace Gus
open Go Go.RowKit Go.Proofs
def vcl (l : List EQ) : List Value := l.flatMap fun e => [.int .i64 e.2.1, .int .u32 e.2.2]
theorem vcl_snoc (l : List EQ) (e : EQ) : vcl (l ++ [e]) = vcl l ++ [.int .i64 e.2.1, .int .u32 e.2.2] := by simp [vcl]
theorem info_q : (Tryz.prog.info? 82).map (fun i => (i.zero, i.size, i.bytes)) = some (some (.agg #[.int .i64 0, .int .u32 0]), 2, 16) := by kernel_rfl
set_option maxRecDepth 100000 in
set_option maxHeartbeats 2000000 in
theorem values_any (w : World) (v : Value) (l : List EQ) (hv : EAt w v l) (hl : l.length ≤ 4096) :
    Calls Tryz.prog 35 #[v] w fun e w' => (∃ d, e = .returned d ∧ w'.ownsRow w.heap.size 82 2 d l.length (vcl l)) ∧ Below w.heap.size w w' := by
  obtain ⟨i0, hi0, hi1, hi2, hi3⟩ := info_parts info_q
  obtain ⟨a, cap, rfl, hc⟩ := hv
  obtain ⟨L, hL⟩ : ∃ L, L = l.length := ⟨_, rfl⟩
  rw [← hL] at hc hl ⊢
  have HC := Lib.hid hc
  have HL := Lib.hid hL
  clear hc hL
  go_enter Tryz.func35, Tryz.ntmps35
  go_wp2_with fail
  go_loopw [3, 4] (fun v3 v4 wr => ∃ (p : Nat) (v : Value), v3 = v ∧ p ≤ L ∧ v4 = .int .i64 p ∧ In w.heap.size w wr ∧ wr.ownsRow w.heap.size 82 2 v p (vcl (l.take p))) (fun _ v4 _ => L - (RowKit.intOf v4).toNat)
  case atStart => exact ⟨0, _, rfl, Nat.zero_le _, rfl, In.self _, World.ownsRow_nil _ _ _ _⟩
  case round =>
    obtain ⟨p, v3, hv3, hp, rfl, hin, hrow⟩ := hrel
    replace hv3 := hv3.symm
    subst hv3
    by_cases hpL : p < L
    · obtain ⟨b, off, rfl, hb, _, hc1, hc2⟩ := HC.out p hpL
      have hpl : p < l.length := by rw [← HL.out]; exact hpL
      have htl : l.take (p + 1) = l.take p ++ [l.getD p (0, 0, 0)] := by
        rw [List.take_add_one, List.getElem?_eq_getElem hpl, List.getD_eq_getElem?_getD, List.getElem?_eq_getElem hpl]; rfl
      obtain ⟨⟨ec, en, ed⟩, hx⟩ : ∃ x, x = l.getD p (0, 0, 0) := ⟨_, rfl⟩
      rw [← hx] at hc1 hc2 htl
      dsimp only at hc1 hc2
      have HTL := Lib.hid (show vcl (l.take (p + 1)) = vcl (l.take p) ++ [.int .i64 en, .int .u32 ed] by rw [htl, vcl_snoc])
      rw [← hin.cell b _ hb] at hc1 hc2
      have hbw : b < wr.heap.size := by have := hin.siz; omega
      have hpI : (p : Int) < L := by omega
      have hp0 : (0 : Int) ≤ p := by omega
      have hpw : IntKind.i64.wrap ((p : Int) + 1) = ((p + 1 : Nat) : Int) := IntWalk.i64_in _ (by omega)
      have hsz := hin.siz
      have HROW := Lib.hid hrow
      clear htl hx hpl hrow
      go_wp2_with (at_builtin; go_loud (refine wpList_append_own _ rfl (.tmp 11) (.tmp 17) 25 rfl w.heap.size 82 i0 (.agg #[.int .i64 0, .int .u32 0]) 2 16 Tryz.underlying25 hi0 hi1 hi2 hi3 rfl (by decide) v3 p (vcl (l.take p)) rfl (HROW.out.alloc _) ⟨wr.heap.size, 0, none⟩ 1 1 [.int .i64 en, .int .u32 ed] rfl rfl ?c1 ?c2 ?c3 ?c4 ?c5 ?_))
      case c1 =>
        intro j u hj
        rw [Addr.add_lit, Nat.zero_add, (Bx.new_at wr #[.int .i64 en, .int .u32 ed] 82 rfl).cell j]; exact hj
      case c2 =>
        intro u hu
        simp only [List.mem_cons, List.not_mem_nil, or_false] at hu
        rcases hu with rfl | rfl <;> rfl
      case c3 => simp only [maxLen]; omega
      case c4 => omega
      case c5 => rw [World.size_alloc]; omega
      intro v' w4 hown4 hgr _
      have hin4 : In w.heap.size w w4 := by
        have h5 := hin.alloc (.cells #[.int .i64 en, .int .u32 ed] 82)
        exact ⟨h5.bel.grown hgr h5.siz (fun k h => by
          rcases HROW.out.2 with ⟨h1, _⟩ | ⟨g, c, cur, h1, h2, _⟩
          · rw [h1] at h; cases h
          · rw [h1] at h; cases h; exact h2), Nat.le_trans h5.siz hgr.size⟩
      have HR4 := Lib.hid (show w4.ownsRow w.heap.size 82 2 v' (p + 1) (vcl (l.take (p + 1))) by rw [HTL.out]; exact hown4)
      have HIN4 := Lib.hid hin4
      clear hown4 hgr hin4 HROW hc1 hc2 hin hbw hsz
      go_wp2_with fail
      exact ⟨⟨p + 1, _, rfl, by omega, by go_num, HIN4.out, HR4.out⟩, by simp [RowKit.intOf]; omega⟩
    · have hpI : ¬ (p : Int) < L := by omega
      obtain rfl : p = L := by omega
      have HR := Lib.hid hrow
      clear hrow
      go_wp2_with fail
      go_ret
      exact ⟨⟨_, rfl, by have := HR.out; rw [List.take_of_length_le (by rw [← HL.out]; omega)] at this; exact this⟩, hin.bel⟩
end Gus
end
