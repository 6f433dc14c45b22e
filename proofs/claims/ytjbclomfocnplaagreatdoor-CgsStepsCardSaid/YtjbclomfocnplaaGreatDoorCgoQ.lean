/- Proved here: parts of the proof: Cgo ArgD ArgE Lws Lsm Lsy Lsp. Conditions: those that each theorem states. -/
import Derived.Test.YtjbclomfocnplaaGreatDoorCgwQ
import Derived.Test.YtjbclomfocnplaaGreatDoorSameQ
import Derived.Deep.Slices
import Derived.Deep.Strs
import Derived.Test.YtjbclomfocnplaaGreatDoorMatAQ
import Derived.Test.YtjbclomfocnplaaGreatDoorCgmQ
section
/- cgs: the outer functions, Left, Energy, From, Run, Solve. -/
namespace Gus
open Go Go.RowKit Go.Proofs
/-- what the checks need to know of a raw matrix -/
def RawK (w : World) (S : Value) (chk : Int) (sy : Bool) : Prop :=
  (∀ W, In w.heap.size w W → Calls Tryz.prog 37 #[S] W fun e w' => e = .returned (.int .i64 chk) ∧ Below W.heap.size W w') ∧
  (∀ W, In w.heap.size w W → Calls Tryz.prog 38 #[S] W fun e w' => e = .returned (.bool sy) ∧ Below W.heap.size W w')
theorem RawK.in {w W : World} {S : Value} {chk : Int} {sy : Bool} (h : RawK w S chk sy) (hin : In w.heap.size w W) : RawK W S chk sy :=
  ⟨fun V hV => h.1 V (hin.call hV.bel), fun V hV => h.2 V (hin.call hV.bel)⟩
theorem beg_two {w : World} {n m : Int} {ra : Option Addr} {rl rc : Nat} {ba xa : Option Addr} {bn bc xn xc : Nat} {M : Addr} {mc : Nat} {chk : Int} {sy : Bool} (hk : RawK w (.agg #[.int .i64 n, .int .i64 m, .slice ra rl rc]) chk sy) (hM : w.cell? M = some (.slice xa xn xc)) (hMs : M.spot = none) :
    Calls Tryz.prog 73 #[.agg #[.int .i64 n, .int .i64 m, .slice ra rl rc], .slice ba bn bc, .slice (some M) 1 mc] w fun e w' => e = .returned (.tuple #[if beginE chk sy [bn, xn] n = 0 then .agg #[.int .i64 n, .int .i64 m, .slice ra rl rc, .slice ba bn bc] else zeroSys, .int .i64 (beginE chk sy [bn, xn] n)]) ∧ Below w.heap.size w w' :=
  begin_one w n m ra rl rc ba xa bn bc xn xc M mc chk sy hM hMs hk.1 hk.2
set_option maxRecDepth 100000 in
set_option maxHeartbeats 2000000 in
theorem left_ok (w : World) (n m : Int) (ra : Option Addr) (rl rc : Nat) (ba xa : Option Addr) (bn bc xn xc : Nat) (chk : Int) (sy : Bool) (hk : RawK w (.agg #[.int .i64 n, .int .i64 m, .slice ra rl rc]) chk sy) (hE : beginE chk sy [bn, xn] n = 0) (L : List Rat)
    (hl : ∀ W, In w.heap.size w W → Calls Tryz.prog 76 #[.agg #[.int .i64 n, .int .i64 m, .slice ra rl rc, .slice ba bn bc], .slice xa xn xc] W fun e w' => (∃ d, e = .returned d ∧ VecAt w' d L) ∧ Below W.heap.size W w') :
    Calls Tryz.prog 17 #[.agg #[.int .i64 n, .int .i64 m, .slice ra rl rc], .slice ba bn bc, .slice xa xn xc] w fun e w' => (∃ d, e = .returned (.tuple #[d, .int .i64 0]) ∧ VecAt w' d L) ∧ Below w.heap.size w w' := by
  have cb := fun W (h : In w.heap.size w W) => beg_two (w := W.alloc (.cells #[.slice xa xn xc] 33)) (ba := ba) (bn := bn) (bc := bc) (mc := 1) (hk.in (h.alloc _)) ((Bx.new_at W #[.slice xa xn xc] 33 rfl).cell 0) rfl
  simp only [hE, if_pos] at cb
  clear hE hk
  go_enter Tryz.func17, Tryz.ntmps17
  go_upto_region 1 with fail
  ((obtain ⟨X, hXX⟩ : ∃ z, z = w.heap.size := ⟨_, rfl⟩); (have bV0 := (Bx.new_at w #[.int .i64 n, .int .i64 m, .slice ra rl rc] 30 (n := X) (by simp [hXX]))); (have hV := ((In.self w).alloc (.cells #[.int .i64 n, .int .i64 m, .slice ra rl rc] 30))); (rw [← hXX] at hV ⊢); (have HX := Lib.hid hXX); (clear hXX); (generalize w.alloc (.cells #[.int .i64 n, .int .i64 m, .slice ra rl rc] 30) = V at *))
  have cb1 := cb V (by rw [HX.out] at hV; exact hV)
  have x0 := bV0.c0; have x1 := bV0.c1; have x2 := bV0.c2; have xl := bV0.lt
  go_wp2_with fail
  ((with_reducible refine cb1.mono ?_))
  rintro e w2 ⟨rfl, hb⟩
  have hin := (hV.alloc (.cells #[.slice xa xn xc] 33)).call hb
  clear hb hV bV0 cb cb1 x0 x1 x2 xl
  go_upto_region 2 with fail
  ((obtain ⟨S, hS⟩ : ∃ z, z = w2.heap.size := ⟨_, rfl⟩); (have bS := Bx.new_at w2 #[.int .i64 n, .int .i64 m, .slice ra rl rc, .slice ba bn bc] 150 hS); (replace hin := hin.alloc (.cells #[.int .i64 n, .int .i64 m, .slice ra rl rc, .slice ba bn bc] 150)); (rw [← hS]); (clear hS); (generalize w2.alloc (.cells #[.int .i64 n, .int .i64 m, .slice ra rl rc, .slice ba bn bc] 150) = V2 at *))
  have s0 := bS.c0; have s1 := bS.c1; have s2 := bS.c2; have s3 := bS.c3; have sl := bS.lt
  rw [HX.out] at hin
  have hl1 := hl V2 hin
  clear hl bS
  go_wp2_with fail
  ((with_reducible refine hl1.mono ?_))
  rintro e w3 ⟨⟨d, rfl, hd⟩, hb⟩
  have hin3 := Lib.hid (hin.call hb)
  have HD := Lib.hid hd
  clear hin hl1 hb hd
  obtain ⟨da, dk, rfl⟩ := HD.out.shape
  go_wp2_with fail
  exact bodyPost_ret (v := .tuple #[.slice da L.length dk, .int .i64 0]) (by simp [results, Tryz.results17, go_sem]) rfl ⟨⟨_, rfl, HD.out⟩, hin3.out.bel⟩
set_option maxRecDepth 100000 in
set_option maxHeartbeats 2000000 in
theorem energy_ok (w : World) (n m : Int) (ra : Option Addr) (rl rc : Nat) (ba xa : Option Addr) (bn bc xn xc : Nat) (chk : Int) (sy : Bool) (hk : RawK w (.agg #[.int .i64 n, .int .i64 m, .slice ra rl rc]) chk sy) (hE : beginE chk sy [bn, xn] n = 0) (q : Rat)
    (hl : ∀ W, In w.heap.size w W → Calls Tryz.prog 80 #[.agg #[.int .i64 n, .int .i64 m, .slice ra rl rc, .slice ba bn bc], .slice xa xn xc] W fun e w' => e = .returned (fracV q) ∧ Below W.heap.size W w') :
    Calls Tryz.prog 22 #[.agg #[.int .i64 n, .int .i64 m, .slice ra rl rc], .slice ba bn bc, .slice xa xn xc] w fun e w' => e = .returned (.tuple #[fracV q, .int .i64 0]) ∧ Below w.heap.size w w' := by
  have cb := fun W (h : In w.heap.size w W) => beg_two (w := W.alloc (.cells #[.slice xa xn xc] 33)) (ba := ba) (bn := bn) (bc := bc) (mc := 1) (hk.in (h.alloc _)) ((Bx.new_at W #[.slice xa xn xc] 33 rfl).cell 0) rfl
  simp only [hE, if_pos] at cb
  obtain ⟨P1, P2, P3, P4, P5, hP, hP'⟩ : ∃ A1 A2 A3 A4 A5, fracV q = .agg #[.int .u64 A1, .string A2, .bool A3, .int .u64 A4, .string A5] ∧ fcs q = [.int .u64 A1, .string A2, .bool A3, .int .u64 A4, .string A5] := ⟨_, _, _, _, _, rfl, rfl⟩
  rw [hP] at hl ⊢
  clear hE hk hP hP'
  go_enter Tryz.func22, Tryz.ntmps22
  go_upto_region 1 with fail
  ((obtain ⟨X, hXX⟩ : ∃ z, z = w.heap.size := ⟨_, rfl⟩); (have bV0 := ((Bx.new_at w #[.int .i64 n, .int .i64 m, .slice ra rl rc] 30 (n := X) (by simp [hXX])).alloc (.cells #[.int .u64 0, .string ⟨#[]⟩, .bool false, .int .u64 0, .string ⟨#[]⟩] 52))); (have bV1 := (Bx.new_at (w.alloc (.cells #[.int .i64 n, .int .i64 m, .slice ra rl rc] 30)) #[.int .u64 0, .string ⟨#[]⟩, .bool false, .int .u64 0, .string ⟨#[]⟩] 52 (n := X + 1) (by simp [hXX]))); (have hV := (((In.self w).alloc (.cells #[.int .i64 n, .int .i64 m, .slice ra rl rc] 30)).alloc (.cells #[.int .u64 0, .string ⟨#[]⟩, .bool false, .int .u64 0, .string ⟨#[]⟩] 52))); (rw [← hXX] at hV ⊢); (have HX := Lib.hid hXX); (clear hXX); (generalize (w.alloc (.cells #[.int .i64 n, .int .i64 m, .slice ra rl rc] 30)).alloc (.cells #[.int .u64 0, .string ⟨#[]⟩, .bool false, .int .u64 0, .string ⟨#[]⟩] 52) = V at *))
  have cb1 := cb V (by rw [HX.out] at hV; exact hV)
  have x0 := bV0.c0; have x1 := bV0.c1; have x2 := bV0.c2; have xl := bV0.lt
  go_wp2_with fail
  ((with_reducible refine cb1.mono ?_))
  rintro e w2 ⟨rfl, hb⟩
  have hin := (hV.alloc (.cells #[.slice xa xn xc] 33)).call hb
  have bq := (bV1.alloc (.cells #[.slice xa xn xc] 33)).call hb
  clear hb hV bV0 bV1 cb cb1 x0 x1 x2 xl
  go_upto_region 2 with fail
  ((obtain ⟨S, hS⟩ : ∃ z, z = w2.heap.size := ⟨_, rfl⟩); (have bS := Bx.new_at w2 #[.int .i64 n, .int .i64 m, .slice ra rl rc, .slice ba bn bc] 150 hS); (replace hin := hin.alloc (.cells #[.int .i64 n, .int .i64 m, .slice ra rl rc, .slice ba bn bc] 150)); (replace bq := bq.alloc (.cells #[.int .i64 n, .int .i64 m, .slice ra rl rc, .slice ba bn bc] 150)); (rw [← hS]); (clear hS); (generalize w2.alloc (.cells #[.int .i64 n, .int .i64 m, .slice ra rl rc, .slice ba bn bc] 150) = V2 at *))
  have s0 := bS.c0; have s1 := bS.c1; have s2 := bS.c2; have s3 := bS.c3; have sl := bS.lt
  have hin0 := hin
  rw [HX.out] at hin0
  have hl1 := hl V2 hin0
  clear hl bS hin0
  go_wp2_with fail
  ((with_reducible refine hl1.mono ?_))
  rintro e w3 ⟨rfl, hb⟩
  replace hin := hin.call hb
  replace bq := bq.call hb
  clear hl1 hb
  ((have q0 := bq.c0); (have q1 := bq.c1); (have q2 := bq.c2); (have q3 := bq.c3); (have q4 := bq.c4); (have f0 := bq.frozen 0); (have f1 := bq.frozen 1); (have f2 := bq.frozen 2); (have f3 := bq.frozen 3); (have f4 := bq.frozen 4); (have ql := bq.lt); (have K1 := Lib.hid ((((((bq.set 0 (.int .u64 P1)).set 1 (.string P2)).set 2 (.bool P3)).set 3 (.int .u64 P4)).set 4 (.string P5)))); (have K2 := Lib.hid ((((((hin.setCell (p := ⟨(X + 1), 0, none⟩) (by first | (simp; done) | (have := HX.out; simp; omega)) (.int .u64 P1)).setCell (p := ⟨(X + 1), 1, none⟩) (by first | (simp; done) | (have := HX.out; simp; omega)) (.string P2)).setCell (p := ⟨(X + 1), 2, none⟩) (by first | (simp; done) | (have := HX.out; simp; omega)) (.bool P3)).setCell (p := ⟨(X + 1), 3, none⟩) (by first | (simp; done) | (have := HX.out; simp; omega)) (.int .u64 P4)).setCell (p := ⟨(X + 1), 4, none⟩) (by first | (simp; done) | (have := HX.out; simp; omega)) (.string P5)))); (clear bq hin); (go_wp2_with fail); (have k1 := K1.out); (have k2 := K2.out); (clear q0 q1 q2 q3 q4 f0 f1 f2 f3 f4 ql K1 K2); (generalize ((((w3.setCell ⟨(X + 1), 0, none⟩ (.int .u64 P1)).setCell ⟨(X + 1), 1, none⟩ (.string P2)).setCell ⟨(X + 1), 2, none⟩ (.bool P3)).setCell ⟨(X + 1), 3, none⟩ (.int .u64 P4)).setCell ⟨(X + 1), 4, none⟩ (.string P5) = W5 at *); (have e0 : W5.cell? ⟨(X + 1), 0, none⟩ = some (.int .u64 P1) := k1.cell 0); (have e1 : W5.cell? ⟨(X + 1), 1, none⟩ = some (.string P2) := k1.cell 1); (have e2 : W5.cell? ⟨(X + 1), 2, none⟩ = some (.bool P3) := k1.cell 2); (have e3 : W5.cell? ⟨(X + 1), 3, none⟩ = some (.int .u64 P4) := k1.cell 3); (have e4 : W5.cell? ⟨(X + 1), 4, none⟩ = some (.string P5) := k1.cell 4); (have hz := k2.bel); (refine bodyPost_ret (v := .tuple #[.agg #[.int .u64 P1, .string P2, .bool P3, .int .u64 P4, .string P5], .int .i64 0]) ?_ rfl ⟨rfl, by rw [← HX.out]; exact hz⟩); (simp [results, Tryz.results22, go_sem, e0, e1, e2, e3, e4]))
/-- a slice and an error, of which the relation holds -/
def TupP (P : Value → World → Prop) (x : Value) (w : World) : Prop := TupS x ∧ P x w
theorem stable_tupp {P : Value → World → Prop} (h : Stable P) : Stable (TupP P) := fun _ _ _ ⟨h1, h2⟩ hs => ⟨h1, h _ _ _ h2 hs⟩
set_option maxRecDepth 100000 in
set_option maxHeartbeats 2000000 in
theorem from_ok (w : World) (n m : Int) (ra : Option Addr) (rl rc : Nat) (ba xa : Option Addr) (bn bc xn xc : Nat) (chk : Int) (sy : Bool) (hk : RawK w (.agg #[.int .i64 n, .int .i64 m, .slice ra rl rc]) chk sy) (hE : beginE chk sy [bn, xn] n = 0) (qs : List Rat) (hx : VecAt w (.slice xa xn xc) qs) (hq : qs.length ≤ 4096) (P : Value → World → Prop) (hP : Stable P)
    (hr : ∀ W d, In w.heap.size w W → VecAt W d qs → Calls Tryz.prog 74 #[.agg #[.int .i64 n, .int .i64 m, .slice ra rl rc, .slice ba bn bc], d] W fun e w' => (∃ v, e = .returned v ∧ TupP P v w') ∧ Below W.heap.size W w') :
    Calls Tryz.prog 16 #[.agg #[.int .i64 n, .int .i64 m, .slice ra rl rc], .slice ba bn bc, .slice xa xn xc] w fun e w' => (∃ v, e = .returned v ∧ TupP P v w') ∧ Below w.heap.size w w' := by
  have cc := fun W (h : In w.heap.size w W) => clone_any W _ qs (hx.call h.bel) hq
  have cb := fun W (h : In w.heap.size w W) => beg_two (w := W.alloc (.cells #[.slice xa xn xc] 33)) (ba := ba) (bn := bn) (bc := bc) (mc := 1) (hk.in (h.alloc _)) ((Bx.new_at W #[.slice xa xn xc] 33 rfl).cell 0) rfl
  simp only [hE, if_pos] at cb
  clear hE hk hx
  go_enter Tryz.func16, Tryz.ntmps16
  go_upto_region 1 with fail
  ((obtain ⟨X, hXX⟩ : ∃ z, z = w.heap.size := ⟨_, rfl⟩); (have bV0 := (Bx.new_at w #[.int .i64 n, .int .i64 m, .slice ra rl rc] 30 (n := X) (by simp [hXX]))); (have hV := ((In.self w).alloc (.cells #[.int .i64 n, .int .i64 m, .slice ra rl rc] 30))); (rw [← hXX] at hV ⊢); (have HX := Lib.hid hXX); (clear hXX); (generalize w.alloc (.cells #[.int .i64 n, .int .i64 m, .slice ra rl rc] 30) = V at *))
  have cb1 := cb V (by rw [HX.out] at hV; exact hV)
  have x0 := bV0.c0; have x1 := bV0.c1; have x2 := bV0.c2; have xl := bV0.lt
  go_wp2_with fail
  ((with_reducible refine cb1.mono ?_))
  rintro e w2 ⟨rfl, hb⟩
  have hin := (hV.alloc (.cells #[.slice xa xn xc] 33)).call hb
  clear hb hV bV0 cb cb1 x0 x1 x2 xl
  go_upto_region 2 with fail
  ((obtain ⟨S, hS⟩ : ∃ z, z = w2.heap.size := ⟨_, rfl⟩); (have bS := Bx.new_at w2 #[.int .i64 n, .int .i64 m, .slice ra rl rc, .slice ba bn bc] 150 hS); (replace hin := hin.alloc (.cells #[.int .i64 n, .int .i64 m, .slice ra rl rc, .slice ba bn bc] 150)); (rw [← hS]); (clear hS); (generalize w2.alloc (.cells #[.int .i64 n, .int .i64 m, .slice ra rl rc, .slice ba bn bc] 150) = V2 at *))
  have s0 := bS.c0; have s1 := bS.c1; have s2 := bS.c2; have s3 := bS.c3; have sl := bS.lt
  rw [HX.out] at hin
  clear bS
  go_upto_region 4 with fail
  have h := In.self V2
  have hc := h.cell
  refine wp_region_flow 6 (by kernel_rfl) (by kernel_rfl) (fun _ _ d _ _ h => by cases d <;> exact h) ?_; simp only [List.take_succ_cons, List.take_zero, List.drop_succ_cons, List.drop_zero]; simp only [putAll, Act.put, List.setIfInBounds_toArray, List.set]; (try simp only [Nat.reduceAdd]); (try simp only [Nat.zero_add]); (repeat (first | ((with_reducible refine flow_float (v := ?_) ?_ ?_ ?_); rotate_left 1; (focus (with_reducible rfl)); (focus (intro u w1 hw hd w2; (try simp only [depH] at hd); (try simp only [ext] at hd); (try simp only [extU] at hd); (try simp only [Nat.reduceAdd] at hd); (try simp only [Nat.reduceEqDiff] at hd); (try simp only [reduceIte] at hd); (try simp only [and_true] at hd); (try simp only [true_and] at hd); go_simp; exact rfl))) | ((first | ((with_reducible refine flow_pure0 (v := ?_) ?_ ?_ ?_ ?_); rotate_left 1; (focus (with_reducible rfl)); (focus rfl)) | ((with_reducible refine flow_pureg (v := ?_) (j := ?_) (b := ?_) ?_ ?_ ?_ ?_); rotate_left 3; (focus (with_reducible rfl)); (focus (intro u w1 hw hd; (try simp only [depH] at hd); (try simp only [ext] at hd); (try simp only [extU] at hd); (try simp only [Nat.reduceAdd] at hd); (try simp only [Nat.reduceEqDiff] at hd); (try simp only [reduceIte] at hd); (try simp only [and_true] at hd); (try simp only [true_and] at hd); simp [yielded, hd]; done)))); (focus (intro u w1 hw hd; (try simp only [depH] at hd); (try simp only [ext] at hd); (try simp only [extU] at hd); (try simp only [Nat.reduceAdd] at hd); (try simp only [Nat.reduceEqDiff] at hd); (try simp only [reduceIte] at hd); (try simp only [and_true] at hd); (try simp only [true_and] at hd); have hc' := hw.cell; go_simp; exact rfl))) | ((with_reducible refine flow_skipg (j := ?_) (b := ?_) ?_ ?_ ?_); rotate_left 2; (focus (with_reducible rfl)); (focus (intro u w1 hw hd; (try simp only [depH] at hd); (try simp only [ext] at hd); (try simp only [extU] at hd); (try simp only [Nat.reduceAdd] at hd); (try simp only [Nat.reduceEqDiff] at hd); (try simp only [reduceIte] at hd); (try simp only [and_true] at hd); (try simp only [true_and] at hd); simp [yielded, hd]; done))) | ((with_reducible refine flow_alloc (t := ?_) (zs := ?_) ?_ ?_ ?_ ?_); rotate_left 2; (focus (with_reducible rfl)); (focus rfl); (focus (intro u w1; go_simp; exact rfl)))))
  (with_reducible refine flow_rel (Vi := VcQ qs) false ?_ ?_ ?_ ?_ ?_ ?_); (focus rfl); (focus rfl); (focus exact stable_vcq _); (focus exact placed_false _); (focus (intro u w1 hw hd; (try simp only [depH] at hd); (try simp only [ext] at hd); (try simp only [extU] at hd); (try simp only [Nat.reduceAdd] at hd); (try simp only [Nat.reduceEqDiff] at hd); (try simp only [reduceIte] at hd); (try simp only [and_true] at hd); (try simp only [true_and] at hd); have hc' := hw.cell; go_simp; (try simp only [okUpon]); go_at_call 75; ((with_reducible refine (cc _ (hin.call hw.ins.bel)).mono ?_)); rintro e w'' ⟨⟨v, rfl, hv⟩, hb⟩; exact ⟨v, rfl, ⟨hv, fun h => by cases h⟩, hb⟩))
  (with_reducible refine flow_rel (Vi := TupP P) false ?_ ?_ ?_ ?_ ?_ ?_); (focus rfl); (focus rfl); (focus exact stable_tupp hP); (focus exact placed_false _); (focus (intro u w1 hw hd; (try simp only [depH] at hd); (try simp only [ext] at hd); (try simp only [extU] at hd); (try simp only [Nat.reduceAdd] at hd); (try simp only [Nat.reduceEqDiff] at hd); (try simp only [reduceIte] at hd); (try simp only [and_true] at hd); (try simp only [true_and] at hd); obtain ⟨hd1, hd2, _⟩ := hd; have hc' := hw.cell; go_simp; (try simp only [okUpon]); go_at_call 74; ((with_reducible refine (hr _ _ (hin.call hw.ins.bel) hd2.v).mono ?_)); rintro e w'' ⟨⟨v, rfl, hv⟩, hb⟩; exact ⟨v, rfl, ⟨hv, fun h => by cases h⟩, hb⟩))
  (((with_reducible refine flow_link (k := 3) (R := FstS) ?_ ?_ ?_ ?_); (focus rfl); (focus rfl); (focus (intro u w1 hw hd; (try simp only [depH] at hd); (try simp only [ext] at hd); (try simp only [extU] at hd); (try simp only [Nat.reduceAdd] at hd); (try simp only [Nat.reduceEqDiff] at hd); (try simp only [reduceIte] at hd); (try simp only [and_true] at hd); (try simp only [true_and] at hd); obtain ⟨⟨a, l, k, e, h5⟩, _⟩ := hd; exact ⟨.slice a l k, fun w2 => (by go_simp), a, l, k, e, h5, rfl⟩))); ((with_reducible refine flow_link (k := 3) (R := SndS) ?_ ?_ ?_ ?_); (focus rfl); (focus rfl); (focus (intro u w1 hw hd; (try simp only [depH] at hd); (try simp only [ext] at hd); (try simp only [extU] at hd); (try simp only [Nat.reduceAdd] at hd); (try simp only [Nat.reduceEqDiff] at hd); (try simp only [reduceIte] at hd); (try simp only [and_true] at hd); (try simp only [true_and] at hd); obtain ⟨⟨a, l, k, e, h5⟩, _⟩ := hd; exact ⟨.int .i64 e, fun w2 => (by go_simp), a, l, k, e, h5, rfl⟩))))
  (try clear hc hf h); intro u w' h ha hdi; replace h := h.ins; (try simp only [World.size_alloc] at h); (try dsimp only at ha); (repeat rw [World.size_alloc] at ha); (try simp only [allH] at ha); (try simp only [ext] at ha); (try simp only [extU] at ha); (try simp only [Nat.reduceAdd] at ha); (try simp only [Nat.reduceEqDiff] at ha); (try simp only [reduceIte] at ha); (try simp only [and_true] at ha); (try simp only [true_and] at ha); have hc := h.cell; have hf := h.frozen
  obtain ⟨⟨⟨⟨ha, h2⟩, h3⟩, h4⟩, h5⟩ := ha
  obtain ⟨_, h6⟩ := h3
  obtain ⟨a4, l4, k4, e4, h7, h8⟩ := h4
  obtain ⟨a5, l5, k5, e5, h9, h10⟩ := h5
  rw [h7] at h9 h6
  simp only [Value.tuple.injEq, Array.mk.injEq, List.cons.injEq, Value.slice.injEq, Value.int.injEq, and_true, true_and] at h9
  obtain ⟨⟨rfl, rfl, rfl⟩, rfl⟩ := h9
  (try dsimp only)
  simp only [h8, h10]
  have hin3 := Lib.hid (hin.call h.bel)
  have HP := Lib.hid h6
  clear ha h2 h7 h8 h10 hdi hc hf h h6 hin s0 s1 s2 s3 sl
  go_wp2_with fail
  exact bodyPost_ret (v := .tuple #[.slice a4 l4 k4, .int .i64 e4]) (by simp [results, Tryz.results16, go_sem]) rfl ⟨⟨_, rfl, ⟨_, _, _, _, rfl⟩, HP.out⟩, hin3.out.bel⟩
theorem beg_zero {w : World} {n m : Int} {ra : Option Addr} {rl rc : Nat} {ba : Option Addr} {bn bc : Nat} {chk : Int} {sy : Bool} (hk : RawK w (.agg #[.int .i64 n, .int .i64 m, .slice ra rl rc]) chk sy) :
    Calls Tryz.prog 73 #[.agg #[.int .i64 n, .int .i64 m, .slice ra rl rc], .slice ba bn bc, .slice none 0 0] w fun e w' => e = .returned (.tuple #[if beginE chk sy [bn] n = 0 then .agg #[.int .i64 n, .int .i64 m, .slice ra rl rc, .slice ba bn bc] else zeroSys, .int .i64 (beginE chk sy [bn] n)]) ∧ Below w.heap.size w w' :=
  begin_none w n m ra rl rc ba bn bc chk sy hk.1 hk.2
set_option maxRecDepth 100000 in
set_option maxHeartbeats 2000000 in
theorem run_ok (w : World) (n : Nat) (m : Int) (ra : Option Addr) (rl rc : Nat) (ba : Option Addr) (bn bc : Nat) (chk : Int) (sy : Bool) (hk : RawK w (.agg #[.int .i64 n, .int .i64 m, .slice ra rl rc]) chk sy) (hE : beginE chk sy [bn] n = 0) (hq : n ≤ 4096) (P : Value → World → Prop) (hP : Stable P)
    (hr : ∀ W d, In w.heap.size w W → VecAt W d (List.replicate n 0) → Calls Tryz.prog 74 #[.agg #[.int .i64 n, .int .i64 m, .slice ra rl rc, .slice ba bn bc], d] W fun e w' => (∃ v, e = .returned v ∧ TupP P v w') ∧ Below W.heap.size W w') :
    Calls Tryz.prog 34 #[.agg #[.int .i64 n, .int .i64 m, .slice ra rl rc], .slice ba bn bc] w fun e w' => (∃ v, e = .returned v ∧ TupP P v w') ∧ Below w.heap.size w w' := by
  have HMK := Lib.hid (mk_vec n (by omega))
  have cb := fun W (h : In w.heap.size w W) => beg_zero (w := W) (ba := ba) (bn := bn) (bc := bc) (hk.in h)
  simp only [hE, if_pos] at cb
  clear hE hk
  go_enter Tryz.func34, Tryz.ntmps34
  go_upto_region 1 with fail
  ((obtain ⟨X, hXX⟩ : ∃ z, z = w.heap.size := ⟨_, rfl⟩); (have bV0 := (Bx.new_at w #[.int .i64 n, .int .i64 m, .slice ra rl rc] 30 (n := X) (by simp [hXX]))); (have hV := ((In.self w).alloc (.cells #[.int .i64 n, .int .i64 m, .slice ra rl rc] 30))); (rw [← hXX] at hV ⊢); (have HX := Lib.hid hXX); (clear hXX); (generalize w.alloc (.cells #[.int .i64 n, .int .i64 m, .slice ra rl rc] 30) = V at *))
  have cb1 := cb V (by rw [HX.out] at hV; exact hV)
  have x0 := bV0.c0; have x1 := bV0.c1; have x2 := bV0.c2; have xl := bV0.lt
  go_wp2_with fail
  ((with_reducible refine cb1.mono ?_))
  rintro e w2 ⟨rfl, hb⟩
  have hin := hV.call hb
  have bV0' := bV0
  clear hV bV0 cb cb1 x0 x1 x2 xl
  go_upto_region 2 with fail
  have bq := bV0'.call hb
  clear hb bV0'
  ((obtain ⟨S, hS⟩ : ∃ z, z = w2.heap.size := ⟨_, rfl⟩); (have bS := Bx.new_at w2 #[.int .i64 n, .int .i64 m, .slice ra rl rc, .slice ba bn bc] 150 hS); (replace hin := hin.alloc (.cells #[.int .i64 n, .int .i64 m, .slice ra rl rc, .slice ba bn bc] 150)); (replace bq := bq.alloc (.cells #[.int .i64 n, .int .i64 m, .slice ra rl rc, .slice ba bn bc] 150)); (rw [← hS]); (clear hS); (generalize w2.alloc (.cells #[.int .i64 n, .int .i64 m, .slice ra rl rc, .slice ba bn bc] 150) = V2 at *))
  have s0 := bS.c0; have s1 := bS.c1; have s2 := bS.c2; have s3 := bS.c3; have sl := bS.lt
  rw [HX.out] at hin
  have y0 := bq.c0; have y1 := bq.c1; have y2 := bq.c2; have yl := bq.lt
  clear bS bq
  go_upto_region 4 with fail
  have h := In.self V2
  have hc := h.cell
  refine wp_region_flow 7 (by kernel_rfl) (by kernel_rfl) (fun _ _ d _ _ h => by cases d <;> exact h) ?_; simp only [List.take_succ_cons, List.take_zero, List.drop_succ_cons, List.drop_zero]; simp only [putAll, Act.put, List.setIfInBounds_toArray, List.set]; (try simp only [Nat.reduceAdd]); (try simp only [Nat.zero_add]); (repeat (first | ((with_reducible refine flow_float (v := ?_) ?_ ?_ ?_); rotate_left 1; (focus (with_reducible rfl)); (focus (intro u w1 hw hd w2; (try simp only [depH] at hd); (try simp only [ext] at hd); (try simp only [extU] at hd); (try simp only [Nat.reduceAdd] at hd); (try simp only [Nat.reduceEqDiff] at hd); (try simp only [reduceIte] at hd); (try simp only [and_true] at hd); (try simp only [true_and] at hd); go_simp; exact rfl))) | ((first | ((with_reducible refine flow_pure0 (v := ?_) ?_ ?_ ?_ ?_); rotate_left 1; (focus (with_reducible rfl)); (focus rfl)) | ((with_reducible refine flow_pureg (v := ?_) (j := ?_) (b := ?_) ?_ ?_ ?_ ?_); rotate_left 3; (focus (with_reducible rfl)); (focus (intro u w1 hw hd; (try simp only [depH] at hd); (try simp only [ext] at hd); (try simp only [extU] at hd); (try simp only [Nat.reduceAdd] at hd); (try simp only [Nat.reduceEqDiff] at hd); (try simp only [reduceIte] at hd); (try simp only [and_true] at hd); (try simp only [true_and] at hd); simp [yielded, hd]; done)))); (focus (intro u w1 hw hd; (try simp only [depH] at hd); (try simp only [ext] at hd); (try simp only [extU] at hd); (try simp only [Nat.reduceAdd] at hd); (try simp only [Nat.reduceEqDiff] at hd); (try simp only [reduceIte] at hd); (try simp only [and_true] at hd); (try simp only [true_and] at hd); have hc' := hw.cell; go_simp; exact rfl))) | ((with_reducible refine flow_skipg (j := ?_) (b := ?_) ?_ ?_ ?_); rotate_left 2; (focus (with_reducible rfl)); (focus (intro u w1 hw hd; (try simp only [depH] at hd); (try simp only [ext] at hd); (try simp only [extU] at hd); (try simp only [Nat.reduceAdd] at hd); (try simp only [Nat.reduceEqDiff] at hd); (try simp only [reduceIte] at hd); (try simp only [and_true] at hd); (try simp only [true_and] at hd); simp [yielded, hd]; done))) | ((with_reducible refine flow_alloc (t := ?_) (zs := ?_) ?_ ?_ ?_ ?_); rotate_left 2; (focus (with_reducible rfl)); (focus rfl); (focus (intro u w1; go_simp; exact rfl)))))
  (with_reducible refine flow_rel (Vi := VcQ (List.replicate n 0)) false ?_ ?_ ?_ ?_ ?_ ?_); (focus rfl); (focus rfl); (focus exact stable_vcq _); (focus exact placed_false _); (focus (intro u w1 hw hd; (try simp only [depH] at hd); (try simp only [ext] at hd); (try simp only [extU] at hd); (try simp only [Nat.reduceAdd] at hd); (try simp only [Nat.reduceEqDiff] at hd); (try simp only [reduceIte] at hd); (try simp only [and_true] at hd); (try simp only [true_and] at hd); have hc' := hw.cell; have hmk := HMK.out w1; go_simp; (try simp only [okUpon]); exact ⟨⟨(VBx.made w1 n).at n List.length_replicate.symm n, fun h => by cases h⟩, (Below.refl _ _).alloc (Nat.le_refl _) _⟩))
  (with_reducible refine flow_rel (Vi := TupP P) false ?_ ?_ ?_ ?_ ?_ ?_); (focus rfl); (focus rfl); (focus exact stable_tupp hP); (focus exact placed_false _); (focus (intro u w1 hw hd; (try simp only [depH] at hd); (try simp only [ext] at hd); (try simp only [extU] at hd); (try simp only [Nat.reduceAdd] at hd); (try simp only [Nat.reduceEqDiff] at hd); (try simp only [reduceIte] at hd); (try simp only [and_true] at hd); (try simp only [true_and] at hd); obtain ⟨hd1, hd2⟩ := hd; have hc' := hw.cell; go_simp; (try simp only [okUpon]); go_at_call 74; ((with_reducible refine (hr _ _ (hin.call hw.ins.bel) hd2.v).mono ?_)); rintro e w'' ⟨⟨v, rfl, hv⟩, hb⟩; exact ⟨v, rfl, ⟨hv, fun h => by cases h⟩, hb⟩))
  (((with_reducible refine flow_link (k := 4) (R := FstS) ?_ ?_ ?_ ?_); (focus rfl); (focus rfl); (focus (intro u w1 hw hd; (try simp only [depH] at hd); (try simp only [ext] at hd); (try simp only [extU] at hd); (try simp only [Nat.reduceAdd] at hd); (try simp only [Nat.reduceEqDiff] at hd); (try simp only [reduceIte] at hd); (try simp only [and_true] at hd); (try simp only [true_and] at hd); obtain ⟨⟨a, l, k, e, h5⟩, _⟩ := hd; exact ⟨.slice a l k, fun w2 => (by go_simp), a, l, k, e, h5, rfl⟩))); ((with_reducible refine flow_link (k := 4) (R := SndS) ?_ ?_ ?_ ?_); (focus rfl); (focus rfl); (focus (intro u w1 hw hd; (try simp only [depH] at hd); (try simp only [ext] at hd); (try simp only [extU] at hd); (try simp only [Nat.reduceAdd] at hd); (try simp only [Nat.reduceEqDiff] at hd); (try simp only [reduceIte] at hd); (try simp only [and_true] at hd); (try simp only [true_and] at hd); obtain ⟨⟨a, l, k, e, h5⟩, _⟩ := hd; exact ⟨.int .i64 e, fun w2 => (by go_simp), a, l, k, e, h5, rfl⟩))))
  (try clear hc hf h); intro u w' h ha hdi; replace h := h.ins; (try simp only [World.size_alloc] at h); (try dsimp only at ha); (repeat rw [World.size_alloc] at ha); (try simp only [allH] at ha); (try simp only [ext] at ha); (try simp only [extU] at ha); (try simp only [Nat.reduceAdd] at ha); (try simp only [Nat.reduceEqDiff] at ha); (try simp only [reduceIte] at ha); (try simp only [and_true] at ha); (try simp only [true_and] at ha); have hc := h.cell; have hf := h.frozen
  obtain ⟨⟨⟨⟨ha, h2⟩, h3⟩, h4⟩, h5⟩ := ha
  obtain ⟨_, h6⟩ := h3
  obtain ⟨a4, l4, k4, e4, h7, h8⟩ := h4
  obtain ⟨a5, l5, k5, e5, h9, h10⟩ := h5
  rw [h7] at h9 h6
  simp only [Value.tuple.injEq, Array.mk.injEq, List.cons.injEq, Value.slice.injEq, Value.int.injEq, and_true, true_and] at h9
  obtain ⟨⟨rfl, rfl, rfl⟩, rfl⟩ := h9
  (try dsimp only)
  simp only [h8, h10]
  have hin3 := Lib.hid (hin.call h.bel)
  have HP := Lib.hid h6
  clear ha h2 h7 h8 h10 hdi hc hf h h6 hin s0 s1 s2 s3 sl y0 y1 y2 yl
  go_wp2_with fail
  exact bodyPost_ret (v := .tuple #[.slice a4 l4 k4, .int .i64 e4]) (by simp [results, Tryz.results34, go_sem]) rfl ⟨⟨_, rfl, ⟨_, _, _, _, rfl⟩, HP.out⟩, hin3.out.bel⟩
end Gus
end
section
/- Arguments: additions of the statements (positions and fractions), and matrices of them. -/
namespace Gus
open Go Go.RowKit Go.Proofs Go.ChangeShapes Go.WideShapes Go.ChangeAt Go.Deep
/-- a value at a position: row, column, numerator, denominator -/
abbrev TQ := Nat × Nat × Int × Int
def TOk (l : List TQ) : Prop := ∀ x ∈ l, x.1 < 256 ∧ x.2.1 < 256 ∧ -9223372036854775808 ≤ x.2.2.1 ∧ x.2.2.1 < 9223372036854775808 ∧ 0 ≤ x.2.2.2 ∧ x.2.2.2 < 4294967296
def TAt (w : World) (a : Option Addr) (l : List TQ) : Prop := ∀ k, k < l.length → ∃ b off, a = some ⟨b, off, none⟩ ∧ b < w.heap.size ∧ w.cell? ⟨b, off + k * 4, none⟩ = some (.int .u8 (l.getD k (0, 0, 0, 0)).1) ∧ w.cell? ⟨b, off + k * 4 + 1, none⟩ = some (.int .u8 (l.getD k (0, 0, 0, 0)).2.1) ∧
  w.cell? ⟨b, off + k * 4 + 2, none⟩ = some (.int .i64 (l.getD k (0, 0, 0, 0)).2.2.1) ∧ w.cell? ⟨b, off + k * 4 + 3, none⟩ = some (.int .u32 (l.getD k (0, 0, 0, 0)).2.2.2)
theorem TAt.call {w w' : World} {a : Option Addr} {l : List TQ} (h : TAt w a l) (hb : Below w.heap.size w w') : TAt w' a l := fun k hk => by
  obtain ⟨b, off, h1, h2, c0, c1, c2, c3⟩ := h k hk
  exact ⟨b, off, h1, Nat.lt_of_lt_of_le h2 hb.size, by rw [hb.cell (p := ⟨b, off + k * 4, none⟩) h2]; exact c0, by rw [hb.cell (p := ⟨b, off + k * 4 + 1, none⟩) h2]; exact c1,
    by rw [hb.cell (p := ⟨b, off + k * 4 + 2, none⟩) h2]; exact c2, by rw [hb.cell (p := ⟨b, off + k * 4 + 3, none⟩) h2]; exact c3⟩
section
variable {H : Type} {enc : TypeId × Value → H} {W : World} {base : Nat} {sp : Nat → Bool} {held : Bool}
set_option maxRecDepth 100000 in
theorem open_ts {fuel : Nat} {cs : List Value} {x : DataW H × List MemPlace} (h : DataW.trod enc Tryz.prog W base sp held fuel 22 cs = some x) :
    ∃ a l cap, cs = [.slice a (List.length l) cap] ∧ TAt W a l ∧ TOk l ∧ l.length ≤ maxLen := by
  rcases open_slice Tryz.underlying22 h with ⟨rfl, _⟩ | ⟨a, len, cap, m, n, D, Pl, rfl, hb, hlc, hcm, hm, _, hx⟩
  · exact ⟨none, [], 0, rfl, fun i hi => absurd hi (Nat.not_lt_zero _), fun p hp => by (cases hp), Nat.zero_le _⟩
  · have hlm : len ≤ m := by rw [hm]; split <;> omega
    have each : ∀ i, i < len → ∃ q : TQ, W.cell? (a.add (i * 4)) = some (.int .u8 q.1) ∧ W.cell? (a.add (i * 4 + 1)) = some (.int .u8 q.2.1) ∧ W.cell? (a.add (i * 4 + 2)) = some (.int .i64 q.2.2.1) ∧ W.cell? (a.add (i * 4 + 3)) = some (.int .u32 q.2.2.2) ∧
        q.1 < 256 ∧ q.2.1 < 256 ∧ -9223372036854775808 ≤ q.2.2.1 ∧ q.2.2.1 < 9223372036854775808 ∧ 0 ≤ q.2.2.2 ∧ q.2.2.2 < 4294967296 := by
      intro i hi
      obtain ⟨cs', h1, h2⟩ := hx i (by omega)
      rw [show Tryz.prog.cellsOf 105 = 4 by kernel_rfl] at h1
      obtain ⟨_, hlen, hcell⟩ := World.cells?_some h1
      obtain ⟨y0, y1, y2, k, _, _, g0, g1, g2⟩ := trod_struct3 Tryz.underlying105 h2
      match cs', hlen with
      | [v0, v1, v2, v3], _ =>
        obtain ⟨z0, e0, _, w0⟩ := DataW.trod_int Tryz.underlying5 g0
        obtain ⟨z1, e1, _, w1⟩ := DataW.trod_int Tryz.underlying5 g1
        obtain ⟨u0, u1, _, _, _, g3, g4⟩ := trod_struct2 Tryz.underlying82 g2
        obtain ⟨z2, e2, _, w2⟩ := DataW.trod_int Tryz.underlying2 g3
        obtain ⟨z3, e3, _, w3⟩ := DataW.trod_int Tryz.underlying80 g4
        simp [show Tryz.prog.cellsOf 5 = 1 by kernel_rfl, show Tryz.prog.cellsOf 2 = 1 by kernel_rfl, show Tryz.prog.cellsOf 80 = 1 by kernel_rfl, show Tryz.prog.cellsOf 82 = 2 by kernel_rfl] at e0 e1 e2 e3
        subst e0 e1 e2 e3
        have b0 := bounds_u8 w0
        have b1 := bounds_u8 w1
        have b2 := bounds_i64 w2
        have b3 := bounds_u32 w3
        have f0 := hcell 0 (by omega)
        have f1 := hcell 1 (by omega)
        have f2 := hcell 2 (by omega)
        have f3 := hcell 3 (by omega)
        rw [add_add] at f0 f1 f2 f3
        obtain ⟨z0, rfl⟩ := Int.eq_ofNat_of_zero_le b0.1
        obtain ⟨z1, rfl⟩ := Int.eq_ofNat_of_zero_le b1.1
        exact ⟨(z0, z1, z2, z3), by simpa using f0, by simpa using f1, by simpa using f2, by simpa using f3, (by show z0 < _; omega), (by show z1 < _; omega), b2.1, (by show z2 < _; omega), b3.1, (by show z3 < _; omega)⟩
    obtain ⟨q, hq⟩ := choose_lt each
    have hlen : ((List.range len).map q).length = len := by simp
    refine ⟨some a, (List.range len).map q, cap, by rw [hlen], fun k hk => ?_, fun p hp => ?_, by rw [hlen]; omega⟩
    · rw [hlen] at hk
      obtain ⟨c0, c1, c2, c3, _⟩ := hq k hk
      obtain ⟨b, off, spot⟩ := a
      obtain rfl : spot = none := by
        have hs := World.cell?_spot (hq 0 (by omega)).1
        simpa [Addr.add] using hs
      rw [add_plain] at c0 c1 c2 c3
      have e : ((List.range len).map q).getD k (0, 0, 0, 0) = q k := by simp [hk]
      rw [e]
      exact ⟨b, off, rfl, cell_in c0, c0, by rw [Nat.add_assoc]; exact c1, by rw [Nat.add_assoc]; exact c2, by rw [Nat.add_assoc]; exact c3⟩
    · obtain ⟨i, hi, rfl⟩ := List.mem_map.1 hp
      exact (hq i (List.mem_range.1 hi)).2.2.2.2
end
end Gus
end
section
/- Arguments: square matrices of additions. -/
namespace Gus
open Go Go.RowKit Go.Proofs Go.ChangeShapes Go.WideShapes Go.ChangeAt Go.Deep
section
variable {H : Type} {enc : TypeId × Value → H} {W : World} {base : Nat} {sp : Nat → Bool} {held : Bool}
set_option maxRecDepth 100000 in
theorem open_s {b0 : Nat} {v : Value} {d : DataW H} {ps : List MemPlace} (hval : Value.okWide Tryz.prog W .any b0 24 v) (hd : DataW.Trod enc Tryz.prog W base sp held 24 v d ps) :
    ∃ (N : Nat) (a : Option Addr) (l : List TQ) (cap : Nat), v = .agg #[.int .u8 N, .slice a l.length cap] ∧ N < 256 ∧ TAt W a l ∧ TOk l ∧ l.length ≤ maxLen := by
  obtain ⟨cs, rfl, hs⟩ := okWide_struct Tryz.underlying24 hval
  obtain ⟨fuel, hf⟩ := hd
  rw [show Tryz.prog.cellsOf 24 = 2 by kernel_rfl] at hs
  obtain ⟨x, y, rfl⟩ : ∃ x y, cs = #[x, y] := by
    rcases cs with ⟨l⟩
    match l, hs with
    | [x, y], _ => exact ⟨x, y, rfl⟩
  obtain ⟨y0, y1, m, _, _, h0, h1⟩ := trod_struct2 Tryz.underlying24 hf
  obtain ⟨n, g0, _, w0⟩ := DataW.trod_int Tryz.underlying5 h0
  obtain ⟨a, l, cap, g1, k1, k2, k3⟩ := open_ts h1
  simp [Value.cells, show Tryz.prog.cellsOf 5 = 1 by kernel_rfl, show Tryz.prog.cellsOf 22 = 1 by kernel_rfl] at g0 g1
  subst g0 g1
  have b0 := bounds_u8 w0
  obtain ⟨n, rfl⟩ := Int.eq_ofNat_of_zero_le b0.1
  exact ⟨n, a, l, cap, rfl, by omega, k1, k2, k3⟩
end
end Gus
end
section
/- gussetlaw19.near, small; gussetlaw16.(S).Size, (T).position. -/
namespace Gus
open Go Go.RowKit Go.Proofs
def nearQ (x : Int × Int) : Bool := decide (-1000 ≤ x.1) && (decide (x.1 ≤ 1000) && decide (x.2 ≤ 1000))
set_option maxRecDepth 100000 in
theorem near_any (n d : Int) (w : World) :
    Calls Tryz.prog 68 #[.agg #[.int .i64 n, .int .u32 d]] w fun e w' => e = .returned (.bool (nearQ (n, d))) ∧ Below w.heap.size w w' := by
  unfold nearQ
  by_cases h1 : -1000 ≤ n
  · by_cases h2 : n ≤ 1000
    · by_cases h3 : d ≤ 1000
      · go_enter Tryz.func68, Tryz.ntmps68
        go_wp2_with fail
        go_ret
        exact ⟨by simp [h1, h2, h3], by (refine In.bel ?_; (repeat (first | (refine In.setCell ?_ (by first | omega | (simp; done) | (simp; omega)) _) | (refine In.alloc ?_ _) | (refine In.drew ?_))); (first | exact In.self _ | (refine In.out h ?_ (by first | omega | (simp; done) | (simp; omega)); (repeat (first | (refine In.setCell ?_ (by first | omega | (simp; done) | (simp; omega)) _) | (refine In.alloc ?_ _) | (refine In.drew ?_))); exact In.self _)))⟩
      · go_enter Tryz.func68, Tryz.ntmps68
        go_wp2_with fail
        go_ret
        exact ⟨by simp [h3], by (refine In.bel ?_; (repeat (first | (refine In.setCell ?_ (by first | omega | (simp; done) | (simp; omega)) _) | (refine In.alloc ?_ _) | (refine In.drew ?_))); (first | exact In.self _ | (refine In.out h ?_ (by first | omega | (simp; done) | (simp; omega)); (repeat (first | (refine In.setCell ?_ (by first | omega | (simp; done) | (simp; omega)) _) | (refine In.alloc ?_ _) | (refine In.drew ?_))); exact In.self _)))⟩
    · have H2 := Lib.hid h2
      go_enter Tryz.func68, Tryz.ntmps68
      go_wp2_with fail
      go_ret
      exact ⟨by rw [show decide (n ≤ 1000) = false from decide_eq_false (by have := H2.out; omega)]; simp, by (refine In.bel ?_; (repeat (first | (refine In.setCell ?_ (by first | omega | (simp; done) | (simp; omega)) _) | (refine In.alloc ?_ _) | (refine In.drew ?_))); (first | exact In.self _ | (refine In.out h ?_ (by first | omega | (simp; done) | (simp; omega)); (repeat (first | (refine In.setCell ?_ (by first | omega | (simp; done) | (simp; omega)) _) | (refine In.alloc ?_ _) | (refine In.drew ?_))); exact In.self _)))⟩
  · have H1 := Lib.hid h1
    go_enter Tryz.func68, Tryz.ntmps68
    go_wp2_with fail
    go_ret
    exact ⟨by rw [show decide (-1000 ≤ n) = false from decide_eq_false (by have := H1.out; omega)]; simp, by (refine In.bel ?_; (repeat (first | (refine In.setCell ?_ (by first | omega | (simp; done) | (simp; omega)) _) | (refine In.alloc ?_ _) | (refine In.drew ?_))); (first | exact In.self _ | (refine In.out h ?_ (by first | omega | (simp; done) | (simp; omega)); (repeat (first | (refine In.setCell ?_ (by first | omega | (simp; done) | (simp; omega)) _) | (refine In.alloc ?_ _) | (refine In.drew ?_))); exact In.self _)))⟩
set_option maxRecDepth 100000 in
theorem size_any (N n cap most : Nat) (a : Option Addr) (hN : N < 256) (hm : most ≤ 1000) (w : World) :
    Calls Tryz.prog 71 #[.agg #[.int .u8 N, .slice a n cap], .int .i64 most] w fun e w' => e = .returned (.int .i64 ((N % (most + 1) : Nat) : Int)) ∧ Below w.heap.size w w' := by
  have h1 : IntKind.i64.wrap ((most : Int) + 1) = ((most + 1 : Nat) : Int) := IntWalk.i64_in _ (by omega)
  have h2 : ¬ ((most + 1 : Nat) : Int) = 0 := by omega
  have h3 : IntKind.i64.wrap (N : Int) = N := IntWalk.i64_in _ (by omega)
  have h4 : (N : Int).tmod ((most + 1 : Nat) : Int) = ((N % (most + 1) : Nat) : Int) := (Int.ofNat_tmod _ _).symm
  have h5 : IntKind.i64.wrap ((N % (most + 1) : Nat) : Int) = ((N % (most + 1) : Nat) : Int) := IntWalk.i64_in _ (by have := Nat.mod_lt N (show 0 < most + 1 by omega); omega)
  go_enter Tryz.func71, Tryz.ntmps71
  go_wp2_with fail
  go_ret
  exact ⟨rfl, by (refine In.bel ?_; (repeat (first | (refine In.setCell ?_ (by first | omega | (simp; done) | (simp; omega)) _) | (refine In.alloc ?_ _) | (refine In.drew ?_))); (first | exact In.self _ | (refine In.out h ?_ (by first | omega | (simp; done) | (simp; omega)); (repeat (first | (refine In.setCell ?_ (by first | omega | (simp; done) | (simp; omega)) _) | (refine In.alloc ?_ _) | (refine In.drew ?_))); exact In.self _)))⟩
set_option maxRecDepth 100000 in
set_option maxHeartbeats 1000000 in
theorem pos_any (I K n : Nat) (N D : Int) (hI : I < 256) (hK : K < 256) (hn : 0 < n) (hn2 : n ≤ 1000) (w : World) :
    Calls Tryz.prog 72 #[.agg #[.int .u8 I, .int .u8 K, .int .i64 N, .int .u32 D], .int .i64 n] w fun e w' => e = .returned (.tuple #[.int .i64 ((I % n : Nat) : Int), .int .i64 ((K % n : Nat) : Int)]) ∧ Below w.heap.size w w' := by
  have h2 : ¬ (n : Int) = 0 := by omega
  have h2n : ¬ n = 0 := by omega
  have h3 : IntKind.i64.wrap (I : Int) = I := IntWalk.i64_in _ (by omega)
  have h3' : IntKind.i64.wrap (K : Int) = K := IntWalk.i64_in _ (by omega)
  have h4 : (I : Int).tmod (n : Int) = ((I % n : Nat) : Int) := (Int.ofNat_tmod _ _).symm
  have h4' : (K : Int).tmod (n : Int) = ((K % n : Nat) : Int) := (Int.ofNat_tmod _ _).symm
  have h5 : IntKind.i64.wrap ((I % n : Nat) : Int) = ((I % n : Nat) : Int) := IntWalk.i64_in _ (by have := Nat.mod_lt I hn; omega)
  have h5' : IntKind.i64.wrap ((K % n : Nat) : Int) = ((K % n : Nat) : Int) := IntWalk.i64_in _ (by have := Nat.mod_lt K hn; omega)
  obtain ⟨i, hi⟩ : ∃ i, i = I % n := ⟨_, rfl⟩
  obtain ⟨k, hk⟩ : ∃ k, k = K % n := ⟨_, rfl⟩
  rw [← hi] at h4 h5 ⊢
  rw [← hk] at h4' h5' ⊢
  clear hi hk
  go_enter Tryz.func72, Tryz.ntmps72
  go_upto_region 1 with fail
  ((obtain ⟨X, hXX⟩ : ∃ z, z = w.heap.size := ⟨_, rfl⟩); (have bV0 := (Bx.new_at w #[.int .u8 I, .int .u8 K, .int .i64 N, .int .u32 D] 105 (n := X) (by simp [hXX]))); (have hV := ((In.self w).alloc (.cells #[.int .u8 I, .int .u8 K, .int .i64 N, .int .u32 D] 105))); (rw [← hXX] at hV ⊢); (have HX := Lib.hid hXX); (clear hXX); (generalize w.alloc (.cells #[.int .u8 I, .int .u8 K, .int .i64 N, .int .u32 D] 105) = V at *))
  rw [HX.out] at hV
  have x0 := bV0.c0; have x1 := bV0.c1; have x2 := bV0.c2; have x3 := bV0.c3; have xl := bV0.lt
  have h := In.self V
  have hc := h.cell
  refine wp_region_flow 11 (by kernel_rfl) (by kernel_rfl) (fun _ _ d _ _ h => by cases d <;> exact h) ?_; simp only [List.take_succ_cons, List.take_zero, List.drop_succ_cons, List.drop_zero]; simp only [putAll, Act.put, List.setIfInBounds_toArray, List.set]; (try simp only [Nat.reduceAdd]); (try simp only [Nat.zero_add]); (repeat (first | ((with_reducible refine flow_float (v := ?_) ?_ ?_ ?_); rotate_left 1; (focus (with_reducible rfl)); (focus (intro u w1 hw hd w2; (try simp only [depH] at hd); (try simp only [ext] at hd); (try simp only [extU] at hd); (try simp only [Nat.reduceAdd] at hd); (try simp only [Nat.reduceEqDiff] at hd); (try simp only [reduceIte] at hd); (try simp only [and_true] at hd); (try simp only [true_and] at hd); go_simp; exact rfl))) | ((first | ((with_reducible refine flow_pure0 (v := ?_) ?_ ?_ ?_ ?_); rotate_left 1; (focus (with_reducible rfl)); (focus rfl)) | ((with_reducible refine flow_pureg (v := ?_) (j := ?_) (b := ?_) ?_ ?_ ?_ ?_); rotate_left 3; (focus (with_reducible rfl)); (focus (intro u w1 hw hd; (try simp only [depH] at hd); (try simp only [ext] at hd); (try simp only [extU] at hd); (try simp only [Nat.reduceAdd] at hd); (try simp only [Nat.reduceEqDiff] at hd); (try simp only [reduceIte] at hd); (try simp only [and_true] at hd); (try simp only [true_and] at hd); simp [yielded, hd]; done)))); (focus (intro u w1 hw hd; (try simp only [depH] at hd); (try simp only [ext] at hd); (try simp only [extU] at hd); (try simp only [Nat.reduceAdd] at hd); (try simp only [Nat.reduceEqDiff] at hd); (try simp only [reduceIte] at hd); (try simp only [and_true] at hd); (try simp only [true_and] at hd); have hc' := hw.cell; go_simp; exact rfl))) | ((with_reducible refine flow_skipg (j := ?_) (b := ?_) ?_ ?_ ?_); rotate_left 2; (focus (with_reducible rfl)); (focus (intro u w1 hw hd; (try simp only [depH] at hd); (try simp only [ext] at hd); (try simp only [extU] at hd); (try simp only [Nat.reduceAdd] at hd); (try simp only [Nat.reduceEqDiff] at hd); (try simp only [reduceIte] at hd); (try simp only [and_true] at hd); (try simp only [true_and] at hd); simp [yielded, hd]; done))) | ((with_reducible refine flow_alloc (t := ?_) (zs := ?_) ?_ ?_ ?_ ?_); rotate_left 2; (focus (with_reducible rfl)); (focus rfl); (focus (intro u w1; go_simp; exact rfl)))))
  (try clear hc hf h); intro u w' h ha hdi; replace h := h.ins; (try simp only [World.size_alloc] at h); (try dsimp only at ha); (repeat rw [World.size_alloc] at ha); (try simp only [allH] at ha); (try simp only [ext] at ha); (try simp only [extU] at ha); (try simp only [Nat.reduceAdd] at ha); (try simp only [Nat.reduceEqDiff] at ha); (try simp only [reduceIte] at ha); (try simp only [and_true] at ha); (try simp only [true_and] at ha); have hc := h.cell; have hf := h.frozen
  (try obtain ⟨ha, _⟩ := ha); (try dsimp only);  simp only [ha]; clear ha hdi 
  have hin := Lib.hid (hV.call h.bel)
  clear hc hf h bV0 x0 x1 x2 x3 xl hV
  go_wp2_with fail
  exact bodyPost_ret (v := .tuple #[.int .i64 (i : Int), .int .i64 (k : Int)]) (by simp [results, Tryz.results72, go_sem]) rfl ⟨rfl, hin.out.bel⟩
set_option maxRecDepth 100000 in
set_option maxHeartbeats 1000000 in
theorem ldot_vl {j l n : Nat} (w : World) (x y : Value) (u v : Vc) (hx : VecAt w x (vl n u)) (hy : VecAt w y (vl n v)) (hn : n ≤ 64) (hu : ∀ i, i < n → SzK j (u i)) (hv : ∀ i, i < n → SzK l (v i)) (hj : 0 < j) (hl : 0 < l) (hcap : 1 + n * (j + l + 1) < 17592186044416) :
    Calls Tryz.prog 26 #[x, y] w fun e w' => e = .returned (fracV (dt n u v)) ∧ Below w.heap.size w w' := by
  have h1 := fun W (h : In w.heap.size w W) => vdot_vl (j := j) (l := l) W x y u v (hx.call h.bel) (hy.call h.bel) hn hu hv hj hl hcap
  obtain ⟨r, hr⟩ : ∃ r, r = dt n u v := ⟨_, rfl⟩
  rw [← hr] at h1 ⊢
  obtain ⟨A1, A2, A3, A4, A5, hA, hA'⟩ : ∃ A1 A2 A3 A4 A5, fracV r = .agg #[.int .u64 A1, .string A2, .bool A3, .int .u64 A4, .string A5] ∧ fcs r = [.int .u64 A1, .string A2, .bool A3, .int .u64 A4, .string A5] := ⟨_, _, _, _, _, rfl, rfl⟩
  rw [hA] at h1 ⊢
  obtain ⟨a, k, rfl⟩ := hx.shape
  obtain ⟨a', k', rfl⟩ := hy.shape
  rw [vl_length] at h1 ⊢
  rw [vl_length] at h1 ⊢
  clear hx hy hu hv hj hl hcap hr hA hA'
  go_enter Tryz.func26, Tryz.ntmps26
  go_upto_region 1 with fail
  ((obtain ⟨X, hXX⟩ : ∃ z, z = w.heap.size := ⟨_, rfl⟩); (have bV0 := (Bx.new_at w #[.int .u64 0, .string ⟨#[]⟩, .bool false, .int .u64 0, .string ⟨#[]⟩] 52 (n := X) (by simp [hXX]))); (have hV := ((In.self w).alloc (.cells #[.int .u64 0, .string ⟨#[]⟩, .bool false, .int .u64 0, .string ⟨#[]⟩] 52))); (rw [← hXX] at hV ⊢); (have HX := Lib.hid hXX); (clear hXX); (generalize w.alloc (.cells #[.int .u64 0, .string ⟨#[]⟩, .bool false, .int .u64 0, .string ⟨#[]⟩] 52) = V at *))
  rw [HX.out] at hV
  go_wp2_with fail
  ((with_reducible refine (h1 _ hV).mono ?_))
  rintro e w2 ⟨rfl, hb⟩
  have hin := hV.call hb
  have bq := bV0.call hb
  clear hb hV bV0 h1
  go_upto_region 2 with fail
  ((obtain ⟨S, hS⟩ : ∃ z, z = w2.heap.size := ⟨_, rfl⟩); (have bS := Bx.new_at w2 #[.int .u64 A1, .string A2, .bool A3, .int .u64 A4, .string A5] 52 hS); (replace hin := hin.alloc (.cells #[.int .u64 A1, .string A2, .bool A3, .int .u64 A4, .string A5] 52)); (replace bq := bq.alloc (.cells #[.int .u64 A1, .string A2, .bool A3, .int .u64 A4, .string A5] 52)); (rw [← hS]); (clear hS); (generalize w2.alloc (.cells #[.int .u64 A1, .string A2, .bool A3, .int .u64 A4, .string A5] 52) = V2 at *))
  have s0 := bS.c0; have s1 := bS.c1; have s2 := bS.c2; have s3 := bS.c3; have s4 := bS.c4; have sl := bS.lt
  ((have q0 := bq.c0); (have q1 := bq.c1); (have q2 := bq.c2); (have q3 := bq.c3); (have q4 := bq.c4); (have f0 := bq.frozen 0); (have f1 := bq.frozen 1); (have f2 := bq.frozen 2); (have f3 := bq.frozen 3); (have f4 := bq.frozen 4); (have ql := bq.lt); (have K1 := Lib.hid ((((((bq.set 0 (.int .u64 A1)).set 1 (.string A2)).set 2 (.bool A3)).set 3 (.int .u64 A4)).set 4 (.string A5)))); (have K2 := Lib.hid ((((((hin.setCell (p := ⟨X, 0, none⟩) (by first | (simp; done) | (have := HX.out; simp; omega)) (.int .u64 A1)).setCell (p := ⟨X, 1, none⟩) (by first | (simp; done) | (have := HX.out; simp; omega)) (.string A2)).setCell (p := ⟨X, 2, none⟩) (by first | (simp; done) | (have := HX.out; simp; omega)) (.bool A3)).setCell (p := ⟨X, 3, none⟩) (by first | (simp; done) | (have := HX.out; simp; omega)) (.int .u64 A4)).setCell (p := ⟨X, 4, none⟩) (by first | (simp; done) | (have := HX.out; simp; omega)) (.string A5)))); (clear bq hin); (go_wp2_with fail); (have k1 := K1.out); (have k2 := K2.out); (clear q0 q1 q2 q3 q4 f0 f1 f2 f3 f4 ql K1 K2); (generalize ((((V2.setCell ⟨X, 0, none⟩ (.int .u64 A1)).setCell ⟨X, 1, none⟩ (.string A2)).setCell ⟨X, 2, none⟩ (.bool A3)).setCell ⟨X, 3, none⟩ (.int .u64 A4)).setCell ⟨X, 4, none⟩ (.string A5) = W5 at *); (have e0 : W5.cell? ⟨X, 0, none⟩ = some (.int .u64 A1) := k1.cell 0); (have e1 : W5.cell? ⟨X, 1, none⟩ = some (.string A2) := k1.cell 1); (have e2 : W5.cell? ⟨X, 2, none⟩ = some (.bool A3) := k1.cell 2); (have e3 : W5.cell? ⟨X, 3, none⟩ = some (.int .u64 A4) := k1.cell 3); (have e4 : W5.cell? ⟨X, 4, none⟩ = some (.string A5) := k1.cell 4); (have hz := k2.bel); (refine bodyPost_ret (v := .agg #[.int .u64 A1, .string A2, .bool A3, .int .u64 A4, .string A5]) ?_ rfl ⟨rfl, hz⟩); (simp [results, Tryz.results26, go_sem, e0, e1, e2, e3, e4]))
set_option maxRecDepth 100000 in
set_option maxHeartbeats 1000000 in
theorem lapply_vl {j l n : Nat} (w : World) (s y : Value) (A : Nat → Nat → Rat) (v : Vc) (hs : SpM w s n n A) (hy : VecAt w y (vl n v)) (hn : n ≤ 64) (hF : ∀ i k, i < n → k < n → SzK j (A i k)) (hv : ∀ i, i < n → SzK l (v i)) (hj : 0 < j) (hl : 0 < l) (hcap : n * n * (j + l + 1) + 1 < 17592186044416) :
    Calls Tryz.prog 19 #[s, y] w fun e w' => (∃ d, e = .returned d ∧ VecAt w' d (vl n (mv n A v))) ∧ Below w.heap.size w w' := by
  have h1 := fun W (h : In w.heap.size w W) => sapp_vl (j := j) (l := l) W _ y A v (hs.call h.bel) (hy.call h.bel) hn hF hv hj hl hcap
  obtain ⟨ra, rc, rfl⟩ := hs.shape
  obtain ⟨a', k', rfl⟩ := hy.shape
  rw [vl_length] at h1 ⊢
  clear hs hy hF hv hj hl hcap
  go_enter Tryz.func19, Tryz.ntmps19
  go_upto_region 1 with fail
  ((obtain ⟨X, hXX⟩ : ∃ z, z = w.heap.size := ⟨_, rfl⟩); (have bV0 := (Bx.new_at w #[.int .i64 n, .int .i64 n, .slice ra n rc] 30 (n := X) (by simp [hXX]))); (have hV := ((In.self w).alloc (.cells #[.int .i64 n, .int .i64 n, .slice ra n rc] 30))); (rw [← hXX] at hV ⊢); (have HX := Lib.hid hXX); (clear hXX); (generalize w.alloc (.cells #[.int .i64 n, .int .i64 n, .slice ra n rc] 30) = V at *))
  rw [HX.out] at hV
  have x0 := bV0.c0; have x1 := bV0.c1; have x2 := bV0.c2; have xl := bV0.lt
  go_wp2_with fail
  ((with_reducible refine (h1 _ hV).mono ?_))
  rintro e w2 ⟨⟨d, rfl, hd⟩, hb⟩
  obtain ⟨da, dk, rfl⟩ := hd.shape
  rw [vl_length] at hd ⊢
  have HD := Lib.hid hd
  have hin := hV.call hb
  clear hb hV bV0 h1 x0 x1 x2 xl hd
  go_wp2_with fail
  exact bodyPost_ret (v := .slice da n dk) (by simp [results, Tryz.results19, go_sem]) rfl ⟨⟨_, rfl, HD.out⟩, hin.bel⟩
end Gus
end
section
/- gussetlaw19.small. -/
namespace Gus
open Go Go.RowKit Go.Proofs
/-- a slice of vectors of fractions as the statements take them -/
def QsAt (w : World) (a : Option Addr) (vs : List (List (Int × Int))) : Prop :=
  ∀ i, i < vs.length → ∃ b off va vc, a = some ⟨b, off, none⟩ ∧ b < w.heap.size ∧ w.cell? ⟨b, off + i, none⟩ = some (.slice va (vs.getD i []).length vc) ∧ QAt w va (vs.getD i [])
theorem QsAt.call {w w' : World} {a : Option Addr} {vs : List (List (Int × Int))} (h : QsAt w a vs) (hb : Below w.heap.size w w') : QsAt w' a vs := fun i hi => by
  obtain ⟨b, off, va, vc, h1, h2, h3, h4⟩ := h i hi
  exact ⟨b, off, va, vc, h1, Nat.lt_of_lt_of_le h2 hb.size, by rw [hb.cell (p := ⟨b, off + i, none⟩) h2]; exact h3, h4.call hb⟩
def smallV (q : List (Int × Int)) : Bool := decide (q.length ≤ 12) && q.all nearQ
def smallT (l : List TQ) (vs : List (List (Int × Int))) : Bool := decide (l.length ≤ 30) && (l.all (fun t => nearQ t.2.2) && vs.all smallV)
set_option maxRecDepth 100000 in
set_option maxHeartbeats 4000000 in
theorem small_any (w : World) (N : Int) (la : Option Addr) (lc : Nat) (l : List TQ) (va : Option Addr) (vc : Nat) (vs : List (List (Int × Int))) (hl : TAt w la l) (hv : QsAt w va vs) (_hl2 : l.length ≤ maxLen) (hv2 : vs.length ≤ 4096) (hv3 : ∀ q ∈ vs, q.length ≤ maxLen) :
    Calls Tryz.prog 12 #[.agg #[.int .u8 N, .slice la l.length lc], .slice va vs.length vc] w fun e w' => e = .returned (.bool (smallT l vs)) ∧ Below w.heap.size w w' := by
  obtain ⟨R, hR⟩ : ∃ R, R = smallT l vs := ⟨_, rfl⟩
  obtain ⟨L, hL⟩ : ∃ L, L = l.length := ⟨_, rfl⟩
  obtain ⟨K, hK⟩ : ∃ K, K = vs.length := ⟨_, rfl⟩
  rw [← hR, ← hL, ← hK]
  unfold smallT at hR
  rw [← hL] at hR _hl2
  rw [← hK] at hv2
  have HR := Lib.hid hR
  have HL := Lib.hid hL
  have HK := Lib.hid hK
  have HT := Lib.hid hl
  have HV := Lib.hid hv
  have HV3 := Lib.hid hv3
  clear hR hL hK hl hv hv3
  by_cases h30 : L ≤ 30
  · have h30i : ¬ (30 : Int) < L := by omega
    have hr1 := HR.out
    rw [decide_eq_true h30, Bool.true_and] at hr1
    have HR1 := Lib.hid hr1
    clear hr1 HR
    go_enter Tryz.func12, Tryz.ntmps12
    go_upto_region 1 with fail
    ((obtain ⟨X, hXX⟩ : ∃ z, z = w.heap.size := ⟨_, rfl⟩); (have bV0 := (Bx.new_at w #[.int .u8 N, .slice la L lc] 24 (n := X) (by simp [hXX]))); (have hV := ((In.self w).alloc (.cells #[.int .u8 N, .slice la L lc] 24))); (rw [← hXX] at hV ⊢); (have HX := Lib.hid hXX); (clear hXX); (generalize w.alloc (.cells #[.int .u8 N, .slice la L lc] 24) = V at *))
    have x0 := bV0.c0; have x1 := bV0.c1; have xl := bV0.lt
    go_wp2_with fail
    go_loopw [5] (fun v5 wr => ∃ i : Nat, i ≤ L ∧ v5 = .int .i64 i ∧ In X w wr ∧ Bx wr X 24 [.int .u8 N, .slice la L lc] ∧ Hid (l.all (fun t => nearQ t.2.2) = (l.drop i).all (fun t => nearQ t.2.2))) (fun v5 _ => L - (RowKit.intOf v5).toNat)
    case atStart => exact ⟨0, Nat.zero_le _, rfl, hV, bV0, Lib.hid rfl⟩
    case round =>
      obtain ⟨i, hi, rfl, hin, bx, HA⟩ := hrel
      clear x0 x1 xl bV0 hV
      by_cases hiL : i < L
      · obtain ⟨b, off, rfl, hb, _, _, hc2, hc3⟩ := HT.out i (by rw [← HL.out]; exact hiL)
        have hd := drop_getD l (0, 0, 0, 0) (show i < l.length by rw [← HL.out]; exact hiL)
        obtain ⟨⟨t1, t2, q, d⟩, hx⟩ : ∃ x, x = l.getD i (0, 0, 0, 0) := ⟨_, rfl⟩
        rw [← hx] at hd hc2 hc3
        rw [← hin.cell b _ (by rw [HX.out]; exact hb)] at hc2 hc3
        dsimp only at hc2 hc3
        have ha := HA.out
        rw [hd, List.all_cons] at ha
        have hcon := near_any q d wr
        obtain ⟨y, hy⟩ : ∃ y, y = nearQ (q, d) := ⟨_, rfl⟩
        dsimp only at ha
        rw [← hy] at hcon ha
        have HAA := Lib.hid ha
        have hiI : (i : Int) < L := by omega
        have hi0 : (0 : Int) ≤ i := by omega
        have hiw : IntKind.i64.wrap ((i : Int) + 1) = ((i + 1 : Nat) : Int) := IntWalk.i64_in _ (by omega)
        have hbw : b < wr.heap.size := by have := hin.siz; rw [HX.out] at this; omega
        have x0 := bx.c0; have x1 := bx.c1; have xl := bx.lt
        clear hd hx hy ha HA
        rcases y with _ | _
        · go_wp2_with fail
          ((with_reducible refine hcon.mono ?_))
          rintro e w2 ⟨rfl, hb2⟩
          have hin2 := hin.call hb2
          clear hb2 hcon hc2 hc3 hbw hin bx x0 x1 xl
          go_wp2_with fail
          go_ret
          exact ⟨(show Ending.returned (.bool false) = .returned (.bool R) by rw [HR1.out, HAA.out, Bool.false_and, Bool.false_and]), by rw [← HX.out]; exact hin2.bel⟩
        · go_wp2_with fail
          ((with_reducible refine hcon.mono ?_))
          rintro e w2 ⟨rfl, hb2⟩
          have hin2 := hin.call hb2
          have bx2 := bx.call hb2
          clear hb2 hcon hc2 hc3 hbw hin bx x0 x1 xl
          go_wp2_with fail
          exact ⟨⟨i + 1, by omega, by go_num, hin2, bx2, Lib.hid (by rw [HAA.out, Bool.true_and])⟩, by simp [RowKit.intOf]; omega⟩
      · have hiI : ¬ (i : Int) < L := by omega
        have ha := HA.out
        rw [List.drop_eq_nil_of_le (by rw [← HL.out]; omega)] at ha
        have hr2 := HR1.out
        rw [ha, List.all_nil, Bool.true_and] at hr2
        have HR2 := Lib.hid hr2
        have x0 := bx.c0; have x1 := bx.c1; have xl := bx.lt
        clear ha HA hr2 HR1
        go_wp2_with fail
        go_loopw [6] (fun v6 wr => ∃ i : Nat, i ≤ K ∧ v6 = .int .i64 i ∧ In X w wr ∧ Hid (R = (vs.drop i).all smallV)) (fun v6 _ => K - (RowKit.intOf v6).toNat)
        case atStart => exact ⟨0, Nat.zero_le _, rfl, hin, HR2⟩
        case round =>
          obtain ⟨i, hi, rfl, hin, HA⟩ := hrel
          clear x0 x1 xl
          by_cases hiK : i < K
          · obtain ⟨b, off, sa, sc, rfl, hb, hc, hq⟩ := HV.out i (by rw [← HK.out]; exact hiK)
            have hd := drop_getD vs [] (show i < vs.length by rw [← HK.out]; exact hiK)
            have hql := HV3.out (vs.getD i []) (by rw [List.getD_eq_getElem?_getD, List.getElem?_eq_getElem (show i < vs.length by rw [← HK.out]; exact hiK)]; exact List.getElem_mem _)
            obtain ⟨qs, hx⟩ : ∃ x, x = vs.getD i [] := ⟨_, rfl⟩
            rw [← hx] at hd hc hq hql
            have ha := HA.out
            rw [hd, List.all_cons] at ha
            obtain ⟨M, hM⟩ : ∃ M, M = qs.length := ⟨_, rfl⟩
            rw [← hM] at hc hql
            have hsv : smallV qs = (decide (M ≤ 12) && qs.all nearQ) := by unfold smallV; rw [hM]
            rw [hsv] at ha
            have HAA := Lib.hid ha
            have HQ := Lib.hid hq
            have HM := Lib.hid hM
            have HC := Lib.hid (show b < w.heap.size ∧ World.cell? w ⟨b, off + i, none⟩ = some (.slice sa M sc) from ⟨hb, hc⟩)
            have hc' := hc
            rw [← hin.cell b _ (by rw [HX.out]; exact hb)] at hc'
            have hiI : (i : Int) < K := by omega
            have hi0 : (0 : Int) ≤ i := by omega
            have hiw : IntKind.i64.wrap ((i : Int) + 1) = ((i + 1 : Nat) : Int) := IntWalk.i64_in _ (by omega)
            have hbw : b < wr.heap.size := by have := hin.siz; rw [HX.out] at this; omega
            clear hd hx ha HA hsv hq hc hM
            by_cases h12 : M ≤ 12
            · have h12i : ¬ (12 : Int) < M := by omega
              have ha := HAA.out
              rw [decide_eq_true h12, Bool.true_and] at ha
              have HAB := Lib.hid ha
              clear ha HAA
              go_wp2_with fail
              go_loopw [7] (fun v7 wr => ∃ k : Nat, k ≤ M ∧ v7 = .int .i64 k ∧ In X w wr ∧ Hid (qs.all nearQ = (qs.drop k).all nearQ)) (fun v7 _ => M - (RowKit.intOf v7).toNat)
              case atStart => exact ⟨0, Nat.zero_le _, rfl, hin, Lib.hid rfl⟩
              case round =>
                clear hc' hbw hin
                obtain ⟨k, hk, rfl, hin, HA⟩ := hrel
                have hc' := HC.out.2
                rw [← hin.cell b _ (by rw [HX.out]; exact HC.out.1)] at hc'
                have hbw : b < wr.heap.size := by have := hin.siz; have := HC.out.1; rw [HX.out] at *; omega
                by_cases hkM : k < M
                · obtain ⟨b2, off2, rfl, hb2, hc2, hc3⟩ := HQ.out k (by rw [← HM.out]; exact hkM)
                  have hd := drop_getD qs (0, 0) (show k < qs.length by rw [← HM.out]; exact hkM)
                  obtain ⟨⟨q, d⟩, hx⟩ : ∃ x, x = qs.getD k (0, 0) := ⟨_, rfl⟩
                  rw [← hx] at hd hc2 hc3
                  rw [← hin.cell b2 _ (by rw [HX.out]; exact hb2)] at hc2 hc3
                  dsimp only at hc2 hc3
                  have ha := HA.out
                  rw [hd, List.all_cons] at ha
                  have hcon := near_any q d wr
                  obtain ⟨y, hy⟩ : ∃ y, y = nearQ (q, d) := ⟨_, rfl⟩
                  rw [← hy] at hcon ha
                  have HAC := Lib.hid ha
                  have hkI : (k : Int) < M := by omega
                  have hk0 : (0 : Int) ≤ k := by omega
                  have hkw : IntKind.i64.wrap ((k : Int) + 1) = ((k + 1 : Nat) : Int) := IntWalk.i64_in _ (by omega)
                  have hbw2 : b2 < wr.heap.size := by have := hin.siz; rw [HX.out] at this; omega
                  have hmul : k * 2 = 2 * k := Nat.mul_comm _ _
                  clear hd hx hy ha HA
                  rcases y with _ | _
                  · go_wp2_with fail
                    ((with_reducible refine hcon.mono ?_))
                    rintro e w2 ⟨rfl, hb2⟩
                    have hin2 := hin.call hb2
                    clear hb2 hcon hc2 hc3 hbw hbw2 hc' hin
                    go_wp2_with fail
                    go_ret
                    exact ⟨(show Ending.returned (.bool false) = .returned (.bool R) by rw [HAB.out, HAC.out, Bool.false_and, Bool.false_and]), by rw [← HX.out]; exact hin2.bel⟩
                  · go_wp2_with fail
                    ((with_reducible refine hcon.mono ?_))
                    rintro e w2 ⟨rfl, hb2⟩
                    have hin2 := hin.call hb2
                    clear hb2 hcon hc2 hc3 hbw hbw2 hc' hin
                    go_wp2_with fail
                    exact ⟨⟨k + 1, by omega, by go_num, hin2, Lib.hid (by rw [HAC.out, Bool.true_and])⟩, by simp [RowKit.intOf]; omega⟩
                · have hkI : ¬ (k : Int) < M := by omega
                  have ha := HA.out
                  rw [List.drop_eq_nil_of_le (by rw [← HM.out]; omega)] at ha
                  have hb3 := HAB.out
                  rw [ha, List.all_nil, Bool.true_and] at hb3
                  have HB3 := Lib.hid hb3
                  clear ha HA hb3
                  go_wp2_with fail
                  exact ⟨⟨i + 1, by omega, by go_num, hin, HB3⟩, by simp [RowKit.intOf]; omega⟩
            · have h12i : (12 : Int) < M := by omega
              have ha := HAA.out
              rw [decide_eq_false h12, Bool.false_and, Bool.false_and] at ha
              have HAB := Lib.hid ha
              clear ha HAA
              go_wp2_with fail
              go_ret
              exact ⟨(show Ending.returned (.bool false) = .returned (.bool R) by rw [HAB.out]), by rw [← HX.out]; exact hin.bel⟩
          · have hiI : ¬ (i : Int) < K := by omega
            have ha := HA.out
            rw [List.drop_eq_nil_of_le (by rw [← HK.out]; omega)] at ha
            have HAA := Lib.hid ha
            clear ha HA
            go_wp2_with fail
            go_ret
            exact ⟨(show Ending.returned (.bool true) = .returned (.bool R) by rw [HAA.out]; rfl), by rw [← HX.out]; exact hin.bel⟩
  · have h30i : (30 : Int) < L := by omega
    have hr1 := HR.out
    rw [decide_eq_false h30, Bool.false_and] at hr1
    have HR1 := Lib.hid hr1
    clear hr1 HR
    go_enter Tryz.func12, Tryz.ntmps12
    go_upto_region 1 with fail
    ((obtain ⟨X, hXX⟩ : ∃ z, z = w.heap.size := ⟨_, rfl⟩); (have bV0 := (Bx.new_at w #[.int .u8 N, .slice la L lc] 24 (n := X) (by simp [hXX]))); (have hV := ((In.self w).alloc (.cells #[.int .u8 N, .slice la L lc] 24))); (rw [← hXX] at hV ⊢); (have HX := Lib.hid hXX); (clear hXX); (generalize w.alloc (.cells #[.int .u8 N, .slice la L lc] 24) = V at *))
    have x0 := bV0.c0; have x1 := bV0.c1; have xl := bV0.lt
    go_wp2_with fail
    go_ret
    exact ⟨(show Ending.returned (.bool false) = .returned (.bool R) by rw [HR1.out]), by rw [← HX.out]; exact hV.bel⟩
end Gus
end
section
/- (gussetlaw16.S).Symm. -/
namespace Gus
open Go Go.RowKit Go.Proofs
def trpOf (n : Nat) (t : TQ) : Trp := (t.1 % n, t.2.1 % n, qOf t.2.2.1 t.2.2.2)
def symOps (n : Nat) (l : List TQ) : List Trp := l.flatMap fun t => symI (trpOf n t)
theorem symOps_snoc (n : Nat) (l : List TQ) (t : TQ) : symOps n (l ++ [t]) = symOps n l ++ symI (trpOf n t) := by simp [symOps]
theorem BB.mono {w : World} {p b n n' N M : Nat} {f : Nat → Nat → Rat} (h : BB w p b n N M f) (hn : n ≤ n') : BB w p b n' N M f := ⟨h.1, h.2.mono hn⟩
theorem take_snoc {α : Type} (l : List α) (d : α) {p : Nat} (h : p < l.length) : l.take (p + 1) = l.take p ++ [l.getD p d] := by
  rw [List.take_add_one, List.getElem?_eq_getElem h, List.getD_eq_getElem?_getD, List.getElem?_eq_getElem h]; rfl
set_option maxRecDepth 100000 in
set_option maxHeartbeats 4000000 in
theorem ssymm_any {j : Nat} (w : World) (N n most : Nat) (la : Option Addr) (lc : Nat) (l : List TQ) (hl : TAt w la l) (hok : TOk l) (hL : l.length ≤ 64) (hN : N < 256) (hm : most ≤ 1000) (hn : n = N % (most + 1)) (hz : ∀ t ∈ l, SzK j (qOf t.2.2.1 t.2.2.2)) (hj : 0 < j) (hcap : j ≤ 4000000000) :
    Calls Tryz.prog 14 #[.agg #[.int .u8 N, .slice la l.length lc], .int .i64 most] w fun e w' => (∃ s, e = .returned s ∧ SpN w' w.heap.size s n n (foldA (fun _ _ => 0) (symOps n l))) ∧ Below w.heap.size w w' := by
  have h0 := fun W => size_any N l.length lc most la hN hm W
  rw [← hn] at h0
  have hn2 : n ≤ 2048 := by have := Nat.mod_lt N (show 0 < most + 1 by omega); omega
  have hn1 : n ≤ 1000 := by have := Nat.mod_lt N (show 0 < most + 1 by omega); omega
  have h1 := new_ok n n hn2 hn2
  obtain ⟨L, hLL⟩ : ∃ L, L = l.length := ⟨_, rfl⟩
  rw [← hLL] at h0 hL ⊢
  have HL := Lib.hid hLL
  have HT := Lib.hid hl
  have HO := Lib.hid hok
  have HZ := Lib.hid hz
  clear hLL hl hok hz hn
  go_enter Tryz.func14, Tryz.ntmps14
  go_upto_region 1 with fail
  ((obtain ⟨X, hXX⟩ : ∃ z, z = w.heap.size := ⟨_, rfl⟩); (have bV0 := ((Bx.new_at w #[.int .u8 N, .slice la L lc] 24 (n := X) (by simp [hXX])).alloc (.cells #[.int .i64 0, .int .i64 0, .slice none 0 0] 30))); (have bV1 := (Bx.new_at (w.alloc (.cells #[.int .u8 N, .slice la L lc] 24)) #[.int .i64 0, .int .i64 0, .slice none 0 0] 30 (n := X + 1) (by simp [hXX]))); (have hV := (((In.self w).alloc (.cells #[.int .u8 N, .slice la L lc] 24)).alloc (.cells #[.int .i64 0, .int .i64 0, .slice none 0 0] 30))); (rw [← hXX] at hV ⊢); (have HX := Lib.hid hXX); (clear hXX); (generalize (w.alloc (.cells #[.int .u8 N, .slice la L lc] 24)).alloc (.cells #[.int .i64 0, .int .i64 0, .slice none 0 0] 30) = V at *))
  have x0 := bV0.c0; have x1 := bV0.c1; have xl := bV0.lt
  go_wp2_with fail
  ((with_reducible refine (h0 _).mono ?_))
  rintro e w1 ⟨rfl, hb⟩
  have hin := hV.call hb
  have bx := bV0.call hb
  have br := bV1.call hb
  clear hb hV bV0 bV1 h0 x0 x1 xl
  go_wp2_with fail
  ((with_reducible refine (h1 _).mono ?_))
  rintro e w2 ⟨b, rfl, hXb, hB, hb⟩
  have hYb : X + 1 < b := by have := br.lt; omega
  replace hin := hin.call hb
  replace bx := bx.call hb
  replace br := br.call hb
  clear hb h1 hXb
  have x0 := bx.c0; have x1 := bx.c1; have xl := bx.lt
  go_wp2_with fail
  go_loopw [8] (fun v8 wr => ∃ p : Nat, p ≤ L ∧ v8 = .int .i64 p ∧ In X w wr ∧ Bx wr X 24 [.int .u8 N, .slice la L lc] ∧ Bx wr (X + 1) 30 [.int .i64 0, .int .i64 0, .slice none 0 0] ∧ BB wr (b + 1) b (2 * p) n n (foldA (fun _ _ => 0) (symOps n (l.take p))) ∧ (∀ x y, SzK (1 + p * (2 * (j + 1))) (foldA (fun _ _ => 0) (symOps n (l.take p)) x y))) (fun v8 _ => L - (RowKit.intOf v8).toNat)
  case atStart => exact ⟨0, Nat.zero_le _, rfl, hin, bx, br, hB, fun _ _ => (show SzK _ 0 from SzK.zero.mono (by omega))⟩
  case round =>
    clear hin bx br hB x0 x1 xl
    obtain ⟨p, hp, rfl, hin, bx, br, hB, hsz⟩ := hrel
    have x0 := bx.c0; have x1 := bx.c1; have xl := bx.lt
    by_cases hpL : p < L ∧ 0 < n
    · obtain ⟨hpL, hn0⟩ := hpL
      have hpI : (p : Int) < L := by omega
      have hnI : (0 : Int) < n := by omega
      have hnn : 0 < n := hn0
      have hp0 : (0 : Int) ≤ p := by omega
      have hpw : IntKind.i64.wrap ((p : Int) + 1) = ((p + 1 : Nat) : Int) := IntWalk.i64_in _ (by omega)
      obtain ⟨b2, off, rfl, hb2, c0, c1, c2, c3⟩ := HT.out p (by rw [← HL.out]; exact hpL)
      have hpl : p < l.length := by rw [← HL.out]; exact hpL
      have htl := take_snoc l (0, 0, 0, 0) hpl
      have hmem : l.getD p (0, 0, 0, 0) ∈ l := by rw [List.getD_eq_getElem?_getD, List.getElem?_eq_getElem hpl]; exact List.getElem_mem _
      have hto := HO.out _ hmem
      have hzq := HZ.out _ hmem
      obtain ⟨⟨I, K, qn, qd⟩, ht⟩ : ∃ t, t = l.getD p (0, 0, 0, 0) := ⟨_, rfl⟩
      rw [← ht] at htl hto hzq c0 c1 c2 c3
      dsimp only at hto hzq c0 c1 c2 c3
      clear ht hmem hpl
      obtain ⟨hI, hK, g1, g2, g3, g4⟩ := hto
      have hp1 := pos_any I K n qn qd hI hK hn0 hn1 wr
      have hq1 := fun W => qOf_any qn qd g1 g2 g3 g4 W
      have hyn := Nat.mod_lt I hn0
      have hzn := Nat.mod_lt K hn0
      have hst : symOps n (l.take (p + 1)) = symOps n (l.take p) ++ symI (I % n, K % n, qOf qn qd) := by rw [htl, symOps_snoc]; rfl
      obtain ⟨y, hy⟩ : ∃ y, y = I % n := ⟨_, rfl⟩
      obtain ⟨z, hz⟩ : ∃ z, z = K % n := ⟨_, rfl⟩
      obtain ⟨q, hq⟩ : ∃ q, q = qOf qn qd := ⟨_, rfl⟩
      rw [← hy, ← hz] at hp1
      rw [← hy, ← hz, ← hq] at hst
      rw [← hy] at hyn
      rw [← hz] at hzn
      rw [← hq] at hzq
      simp only [← hq] at hq1
      clear hy hz hq htl
      obtain ⟨F, hF⟩ : ∃ F, F = foldA (fun _ _ => 0) (symOps n (l.take p)) := ⟨_, rfl⟩
      rw [← hF] at hB hsz
      have hfold : foldA (fun _ _ => 0) (symOps n (l.take (p + 1))) = foldA F (symI (y, z, q)) := by rw [hst, hF]; exact List.foldl_append
      have HFO := Lib.hid hfold
      have HS := Lib.hid hsz
      have HQ := Lib.hid hzq
      have HI := Lib.hid (show y < n ∧ z < n from ⟨hyn, hzn⟩)
      have hs2 := SzK_foldA (x := (y, z, q)) hsz hzq
      have HS2 := Lib.hid hs2
      obtain ⟨A1, A2, A3, A4, A5, hA, hA'⟩ : ∃ A1 A2 A3 A4 A5, fracV q = .agg #[.int .u64 A1, .string A2, .bool A3, .int .u64 A4, .string A5] ∧ fcs q = [.int .u64 A1, .string A2, .bool A3, .int .u64 A4, .string A5] := ⟨_, _, _, _, _, rfl, rfl⟩
      rw [hA] at hq1
      have HA := Lib.hid hA
      clear hA hA' hst hF hfold hsz hzq hyn hzn hs2
      have d0 := c0
      have d1 := c1
      have d2 := c2
      have d3 := c3
      rw [← hin.cell b2 _ (by rw [HX.out]; exact hb2)] at d0 d1 d2 d3
      have hbw : b2 < wr.heap.size := by have := hin.siz; rw [HX.out] at this; omega
      go_wp2_with fail
      ((with_reducible refine hp1.mono ?_))
      rintro e w3 ⟨rfl, hb⟩
      replace hin := hin.call hb
      replace bx := bx.call hb
      replace br := br.call hb
      replace hB := hB.call hb
      clear d0 d1 d2 d3 hbw hb hp1 x0 x1 xl
      have d2 := c2
      have d3 := c3
      rw [← hin.cell b2 _ (by rw [HX.out]; exact hb2)] at d2 d3
      have hbw : b2 < w3.heap.size := by have := hin.siz; rw [HX.out] at this; omega
      have x0 := bx.c0; have x1 := bx.c1; have xl := bx.lt
      go_wp2_with fail
      ((with_reducible refine (hq1 _).mono ?_))
      rintro e w4 ⟨rfl, hb⟩
      replace hin := hin.call hb
      replace bx := bx.call hb
      replace br := br.call hb
      replace hB := hB.call hb
      clear d2 d3 hbw hb x0 x1 xl
      have hpj : p * (2 * (j + 1)) ≤ 64 * (2 * (j + 1)) := Nat.mul_le_mul_right _ (by omega)
      have ha := badd_in (s := 1 + p * (2 * (j + 1))) (j := j) w4 (b + 1) b (2 * p) n n F y z q hB HI.out.1 HI.out.2 hn2 hn2 (by simp only [maxLen]; omega) (by omega) (HS.out _ _) HQ.out (by omega)
      rw [HA.out] at ha
      go_wp2_with fail
      ((with_reducible refine ha.mono ?_))
      rintro e w5 ⟨rfl, hB5, hg⟩
      have hin5 := hin.grown hg (by omega)
      have br5 := br.grown hg (by simp; omega)
      have bx5 := bx.grown hg (by simp; omega)
      clear ha hg hin br bx hB
      by_cases hyz : y = z
      · have hI1 : ((y : Int) != z) = false := by rw [hyz]; simp
        have HY := Lib.hid hyz
        have hBf : BB w5 (b + 1) b (2 * (p + 1)) n n (foldA (fun _ _ => 0) (symOps n (l.take (p + 1)))) := by
          rw [HFO.out, symI, if_pos hyz]; exact hB5.mono (by omega)
        have hSf : ∀ x y, SzK (1 + (p + 1) * (2 * (j + 1))) (foldA (fun _ _ => 0) (symOps n (l.take (p + 1))) x y) := by
          rw [HFO.out, symI, if_pos hyz]; exact fun x y => (HS2.out x y).mono (by rw [Nat.add_mul]; omega)
        have HSF := Lib.hid hSf
        clear hyz hSf hB5
        go_wp2_with fail
        exact ⟨⟨p + 1, by omega, by go_num, hin5, bx5, br5, hBf, HSF.out⟩, by simp [RowKit.intOf]; omega⟩
      · have hI1 : ((y : Int) != z) = true := bne_iff_ne.2 (by omega)
        have HY := Lib.hid hyz
        clear hyz
        have d2 := c2
        have d3 := c3
        rw [← hin5.cell b2 _ (by rw [HX.out]; exact hb2)] at d2 d3
        have hbw : b2 < w5.heap.size := by have := hin5.siz; rw [HX.out] at this; omega
        have x0 := bx5.c0; have x1 := bx5.c1; have xl := bx5.lt
        go_wp2_with fail
        ((with_reducible refine (hq1 _).mono ?_))
        rintro e w6 ⟨rfl, hb⟩
        replace hin5 := hin5.call hb
        replace bx5 := bx5.call hb
        replace br5 := br5.call hb
        replace hB5 := hB5.call hb
        clear d2 d3 hbw hb x0 x1 xl
        have ha := badd_in (s := 1 + p * (2 * (j + 1)) + j + 1) (j := j) w6 (b + 1) b (2 * p + 1) n n (addF F (y, z, q)) z y q hB5 HI.out.2 HI.out.1 hn2 hn2 (by simp only [maxLen]; omega) (by omega) (HS2.out _ _) HQ.out (by omega)
        rw [HA.out] at ha
        go_wp2_with fail
        ((with_reducible refine ha.mono ?_))
        rintro e w7 ⟨rfl, hB7, hg⟩
        have hin7 := hin5.grown hg (by omega)
        have br7 := br5.grown hg (by simp; omega)
        have bx7 := bx5.grown hg (by simp; omega)
        clear ha hg hin5 br5 bx5 hB5
        have hBf : BB w7 (b + 1) b (2 * (p + 1)) n n (foldA (fun _ _ => 0) (symOps n (l.take (p + 1)))) := by
          rw [HFO.out, symI, if_neg HY.out]; exact hB7.mono (by omega)
        have hSf : ∀ x y, SzK (1 + (p + 1) * (2 * (j + 1))) (foldA (fun _ _ => 0) (symOps n (l.take (p + 1))) x y) := by
          rw [HFO.out, symI, if_neg HY.out]; exact fun x' y' => (SzK_foldA (x := (z, y, q)) HS2.out HQ.out x' y').mono (by rw [Nat.add_mul]; omega)
        have HSF := Lib.hid hSf
        clear hSf hB7
        go_wp2_with fail
        exact ⟨⟨p + 1, by omega, by go_num, hin7, bx7, br7, hBf, HSF.out⟩, by simp [RowKit.intOf]; omega⟩
    · have hfin : ∀ i k, i < n → k < n → foldA (fun _ _ => 0) (symOps n (l.take p)) i k = foldA (fun _ _ => 0) (symOps n l) i k := fun i k hi hk => by
        have : p = L := by omega
        rw [List.take_of_length_le (by rw [← HL.out]; omega)]
      have HF := Lib.hid hfin
      have hsp := bsparse_any wr (b + 1) b _ n n _ hB hn2 hn2
      have hXw := hin.siz
      clear hfin hB hsz bx
      have hcond : ¬ (p : Int) < L ∨ (p : Int) < L ∧ ¬ (0 : Int) < n := by omega
      clear hpL
      rcases hcond with hpI | ⟨hpI, hnI⟩
      · go_wp2_with fail
        ((with_reducible refine hsp.mono ?_))
        rintro e w5 ⟨v5, rfl, hv5, hb5⟩
        ((obtain ⟨R, h5⟩ : ∃ R, v5 = .agg #[(.int .i64 ((n : Nat) : Int)), (.int .i64 ((n : Nat) : Int)), (.slice (some ⟨R, 0, none⟩) (n) (n))] := by (obtain ⟨R, _, h, _⟩ := hv5; exact ⟨R, h⟩)); (have br5 := br.call hb5); (have hin5 := hin.call hb5); (have hXl := br.lt); (have hv7 := ((SpOwn.other (a := ⟨(X + 1), 0, none⟩) hv5 hXl (.int .i64 ((n : Nat) : Int))).other (a := ⟨(X + 1), 1, none⟩) hXl (.int .i64 ((n : Nat) : Int))).other (a := ⟨(X + 1), 2, none⟩) hXl (.slice (some ⟨R, 0, none⟩) (n) (n))); (have br6 := ((br5.set 0 (.int .i64 ((n : Nat) : Int))).set 1 (.int .i64 ((n : Nat) : Int))).set 2 (.slice (some ⟨R, 0, none⟩) (n) (n))); (have hin6 := ((hin5.setCell (p := ⟨(X + 1), 0, none⟩) (by first | (simp; done) | (simp; omega)) (.int .i64 ((n : Nat) : Int))).setCell (p := ⟨(X + 1), 1, none⟩) (by first | (simp; done) | (simp; omega)) (.int .i64 ((n : Nat) : Int))).setCell (p := ⟨(X + 1), 2, none⟩) (by first | (simp; done) | (simp; omega)) (.slice (some ⟨R, 0, none⟩) (n) (n))); (have f0 := br5.frozen 0); (have f1 := br5.frozen 1); (have f2 := br5.frozen 2); (have b0 := br5.c0); (have b1 := br5.c1); (have b2 := br5.c2); (have hl5 := br5.lt); (subst h5); (have H1 := Lib.hid hv7); (have H2 := Lib.hid br6); (have H3 := Lib.hid hin6); (clear hv7 br6 hin6 hv5 hb5 br br5 hin hin5); (go_wp2_with fail); (have h1 := H1.out); (have h2 := H2.out); (have h3 := H3.out); (clear H1 H2 H3 f0 f1 f2 b0 b1 b2 hl5); (generalize ((w5.setCell ⟨(X + 1), 0, none⟩ (.int .i64 ((n : Nat) : Int))).setCell ⟨(X + 1), 1, none⟩ (.int .i64 ((n : Nat) : Int))).setCell ⟨(X + 1), 2, none⟩ (.slice (some ⟨R, 0, none⟩) (n) (n)) = W6 at *); (have e0 : W6.cell? ⟨(X + 1), 0, none⟩ = some (.int .i64 ((n : Nat) : Int)) := h2.cell 0); (have e1 : W6.cell? ⟨(X + 1), 1, none⟩ = some (.int .i64 ((n : Nat) : Int)) := h2.cell 1); (have e2 : W6.cell? ⟨(X + 1), 2, none⟩ = some (.slice (some ⟨R, 0, none⟩) (n) (n)) := h2.cell 2); (have hfin := SpOwn.mono h1 (show w.heap.size ≤ (World.heap wr).size by rw [← HX.out]; omega)); (have hbelow : Below w.heap.size w W6 := h3.bel.mono (by have := HX.out; omega)); (refine bodyPost_ret (v := .agg #[(.int .i64 ((n : Nat) : Int)), (.int .i64 ((n : Nat) : Int)), (.slice (some ⟨R, 0, none⟩) (n) (n))]) ?_ rfl ⟨⟨_, rfl, SpN.congr hfin HF.out⟩, hbelow⟩); (simp [results, Tryz.results14, go_sem, e0, e1, e2]))
      · go_wp2_with fail
        ((with_reducible refine hsp.mono ?_))
        rintro e w5 ⟨v5, rfl, hv5, hb5⟩
        ((obtain ⟨R, h5⟩ : ∃ R, v5 = .agg #[(.int .i64 ((n : Nat) : Int)), (.int .i64 ((n : Nat) : Int)), (.slice (some ⟨R, 0, none⟩) (n) (n))] := by (obtain ⟨R, _, h, _⟩ := hv5; exact ⟨R, h⟩)); (have br5 := br.call hb5); (have hin5 := hin.call hb5); (have hXl := br.lt); (have hv7 := ((SpOwn.other (a := ⟨(X + 1), 0, none⟩) hv5 hXl (.int .i64 ((n : Nat) : Int))).other (a := ⟨(X + 1), 1, none⟩) hXl (.int .i64 ((n : Nat) : Int))).other (a := ⟨(X + 1), 2, none⟩) hXl (.slice (some ⟨R, 0, none⟩) (n) (n))); (have br6 := ((br5.set 0 (.int .i64 ((n : Nat) : Int))).set 1 (.int .i64 ((n : Nat) : Int))).set 2 (.slice (some ⟨R, 0, none⟩) (n) (n))); (have hin6 := ((hin5.setCell (p := ⟨(X + 1), 0, none⟩) (by first | (simp; done) | (simp; omega)) (.int .i64 ((n : Nat) : Int))).setCell (p := ⟨(X + 1), 1, none⟩) (by first | (simp; done) | (simp; omega)) (.int .i64 ((n : Nat) : Int))).setCell (p := ⟨(X + 1), 2, none⟩) (by first | (simp; done) | (simp; omega)) (.slice (some ⟨R, 0, none⟩) (n) (n))); (have f0 := br5.frozen 0); (have f1 := br5.frozen 1); (have f2 := br5.frozen 2); (have b0 := br5.c0); (have b1 := br5.c1); (have b2 := br5.c2); (have hl5 := br5.lt); (subst h5); (have H1 := Lib.hid hv7); (have H2 := Lib.hid br6); (have H3 := Lib.hid hin6); (clear hv7 br6 hin6 hv5 hb5 br br5 hin hin5); (go_wp2_with fail); (have h1 := H1.out); (have h2 := H2.out); (have h3 := H3.out); (clear H1 H2 H3 f0 f1 f2 b0 b1 b2 hl5); (generalize ((w5.setCell ⟨(X + 1), 0, none⟩ (.int .i64 ((n : Nat) : Int))).setCell ⟨(X + 1), 1, none⟩ (.int .i64 ((n : Nat) : Int))).setCell ⟨(X + 1), 2, none⟩ (.slice (some ⟨R, 0, none⟩) (n) (n)) = W6 at *); (have e0 : W6.cell? ⟨(X + 1), 0, none⟩ = some (.int .i64 ((n : Nat) : Int)) := h2.cell 0); (have e1 : W6.cell? ⟨(X + 1), 1, none⟩ = some (.int .i64 ((n : Nat) : Int)) := h2.cell 1); (have e2 : W6.cell? ⟨(X + 1), 2, none⟩ = some (.slice (some ⟨R, 0, none⟩) (n) (n)) := h2.cell 2); (have hfin := SpOwn.mono h1 (show w.heap.size ≤ (World.heap wr).size by rw [← HX.out]; omega)); (have hbelow : Below w.heap.size w W6 := h3.bel.mono (by have := HX.out; omega)); (refine bodyPost_ret (v := .agg #[(.int .i64 ((n : Nat) : Int)), (.int .i64 ((n : Nat) : Int)), (.slice (some ⟨R, 0, none⟩) (n) (n))]) ?_ rfl ⟨⟨_, rfl, SpN.congr hfin HF.out⟩, hbelow⟩); (simp [results, Tryz.results14, go_sem, e0, e1, e2]))
end Gus
end
