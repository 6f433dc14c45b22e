/- Proved: whatever the fraction, the matrices and the vectors, gussetlaw16.SparsesDense returns true, and the arguments read as before. Conditions: the three listed tables hold what the program's text lays (the card ties them). -/
import Derived.Test.YtjiobckoldnonaaGreatDoorMmuQ
import Derived.Test.YtjiobckoldnonaaGreatDoorRows
import Derived.Test.YtjiobckoldnonaaGreatDoorTie
import Derived.Test.YtjiobckoldnonaaGreatDoorCards
import Derived.WalkKit
import Derived.ProofKit
import Derived.OpenShut
import Derived.SevenTiedAt
import Derived.Below
import Derived.ChangeSame
import Derived.LaidLaws
import Derived.Lib.LaidTab
import Derived.Deep.DeepHandedRow
import Derived.Test.YtjiobckoldnonaaGreatDoorSameQ
import Derived.Deep.SlicePairs
import Derived.Carry
section
/- gussetlaw16.SparsesDense. -/
namespace Gus
open Go Go.RowKit Go.Proofs
set_option maxRecDepth 100000 in
set_option maxHeartbeats 16000000 in
theorem dense_small (w : World) (cn cd : Int) (R0 C0 R1 C1 : Nat) (hR0 : R0 < 256) (hC0 : C0 < 256) (hR1 : R1 < 256) (hC1 : C1 < 256) (a b d g : Option Addr) (ca cb kd kg : Nat) (qa qb qv qw : List (Int × Int)) (hqa : QAt w a qa) (hqb : QAt w b qb) (hqv : QAt w d qv) (hqw : QAt w g qw) (hoa : QOk qa) (hob : QOk qb) (hov : QOk qv) (how : QOk qw) (hla : qa.length ≤ 40) (hlb : qb.length ≤ 40) (hlv : qv.length ≤ 6) (hlw : qw.length ≤ 6)
    (hn0 : -9223372036854775808 ≤ cn) (hn1 : cn < 9223372036854775808) (hd0 : 0 ≤ cd) (hd1 : cd < 4294967296) :
    Calls Tryz.prog 8 #[.agg #[.int .i64 cn, .int .u32 cd], .agg #[.int .u8 R0, .int .u8 C0, .slice a qa.length ca], .agg #[.int .u8 R1, .int .u8 C1, .slice b qb.length cb], .slice d qv.length kd, .slice g qw.length kg] w fun e w' => e = .returned (.bool true) ∧ Below w.heap.size w w' := by
  have c0 := fun W b1 T h => small_two W b1 T R0 C0 R1 C1 a b qa.length qb.length ca cb (by omega) (by omega) h
  rw [show (decide (qa.length ≤ 40) && decide (qb.length ≤ 40)) = true by simp; omega] at c0
  have cz := works_any
  have c1 := fun W (h : QAt W a qa) => mof_cap W R0 C0 hR0 hC0 a ca qa h hoa (by omega)
  have c2 := fun W (h : QAt W b qb) => mof_cap W R1 C1 hR1 hC1 b cb qb h hob (by omega)
  have cq := qOf_any cn cd hn0 hn1 hd0 hd1
  have hzc := qOf_szk hn0 hn1 hd0 hd1
  obtain ⟨cc, hcq⟩ : ∃ q, q = qOf cn cd := ⟨_, rfl⟩
  rw [← hcq] at cq hzc
  have c5 := fun W (h : QAt W d qv) => lvec_any W d kd qv.length qv h hov (by omega) (by omega)
  have c5' := fun W (h : QAt W g qw) => lvec_any W g kg qw.length qw h how (by omega) (by omega)
  obtain ⟨la, hLa⟩ : ∃ la, la = qa.length := ⟨_, rfl⟩
  obtain ⟨lb, hLb⟩ : ∃ lb, lb = qb.length := ⟨_, rfl⟩
  obtain ⟨lv, hLv⟩ : ∃ lb, lb = qv.length := ⟨_, rfl⟩
  obtain ⟨lw, hLw⟩ : ∃ lb, lb = qw.length := ⟨_, rfl⟩
  rw [← hLa, ← hLb] at c0
  rw [← hLa] at c1
  rw [← hLb] at c2
  rw [← hLv] at c5 hlv
  rw [← hLw] at c5' hlw
  rw [← hLa, ← hLb, ← hLv, ← hLw]
  obtain ⟨r, hr⟩ : ∃ r, r = R0 % 7 := ⟨_, rfl⟩
  obtain ⟨c, hcc⟩ : ∃ c, c = C0 % 7 := ⟨_, rfl⟩
  obtain ⟨r', hr'⟩ : ∃ r, r = R1 % 7 := ⟨_, rfl⟩
  obtain ⟨c', hcc'⟩ : ∃ c, c = C1 % 7 := ⟨_, rfl⟩
  rw [← hr, ← hcc] at c1
  rw [← hr', ← hcc'] at c2
  obtain ⟨xs, hxs⟩ : ∃ xs, xs = mList qa (r * c) := ⟨_, rfl⟩
  obtain ⟨ys, hys⟩ : ∃ ys, ys = mList qb (r' * c') := ⟨_, rfl⟩
  obtain ⟨ps, hps⟩ : ∃ ps, ps = mList qv lv := ⟨_, rfl⟩
  obtain ⟨ts, hts⟩ : ∃ ts, ts = mList qw lw := ⟨_, rfl⟩
  rw [← hxs] at c1
  rw [← hys] at c2
  rw [← hps] at c5
  rw [← hts] at c5'
  have hzx : ∀ i, SzK 128 (xs.getD i 0) := fun i => by rw [hxs]; exact mList_szk hoa _ _
  have hzy : ∀ i, SzK 128 (ys.getD i 0) := fun i => by rw [hys]; exact mList_szk hob _ _
  have hzp : ∀ i, SzK 128 (ps.getD i 0) := fun i => by rw [hps]; exact mList_szk hov _ _
  have hzt : ∀ i, SzK 128 (ts.getD i 0) := fun i => by rw [hts]; exact mList_szk how _ _
  have hlx : xs.length = r * c := by rw [hxs, mList_length]
  have hly : ys.length = r' * c' := by rw [hys, mList_length]
  have hlp : ps.length = lv := by rw [hps, mList_length]
  have hlt : ts.length = lw := by rw [hts, mList_length]
  have hr6 : r ≤ 6 := by omega
  have hc6 : c ≤ 6 := by omega
  have hr6' : r' ≤ 6 := by omega
  have hc6' : c' ≤ 6 := by omega
  have hrc : r * c ≤ 36 := Nat.mul_le_mul hr6 hc6
  have hrc' : r' * c' ≤ 36 := Nat.mul_le_mul hr6' hc6'
  have c3 := fun lo W v (hlo : lo ≤ W.heap.size) (h : MatAt W v r c xs) => lof_at (j := 128) lo W v r c xs h hlo (by omega) (by omega) hzx (by omega)
  have c4 := fun lo W v (hlo : lo ≤ W.heap.size) (h : MatAt W v r' c' ys) => lof_at (j := 128) lo W v r' c' ys h hlo (by omega) (by omega) hzy (by omega)
  have hm1 : r * c * (c' * (128 + 128 + 1)) ≤ 36 * (6 * 257) := Nat.mul_le_mul hrc (Nat.mul_le_mul hc6' (Nat.le_refl _))
  have hm2 : r * c * c' ≤ 36 * 6 := Nat.mul_le_mul hrc hc6'
  have hm3 : r * (128 + (1 + c * (128 + 128 + 1)) + 1) ≤ 6 * 1680 := Nat.mul_le_mul hr6 (by omega)
  have c6 := fun W u v (h1 : SpM W u r c (mvals c xs)) (h2 : SpM W v r' c' (mvals c' ys)) => sadd_at (j := 128) (l := 128) W u v r c r' c' xs ys h1 h2 (by omega) (by omega) (by omega) (by omega) hzx hzy (by omega)
  have c7 := fun W u v (h1 : MatAt W u r c xs) (h2 : MatAt W v r' c' ys) => madd_any (j := 128) W u v r c r' c' xs ys h1 h2 (by omega) (by omega) (by omega) (by omega) hzx hzy (by omega)
  have c8 := fun W u v (h1 : SpM W u r c (mvals c xs)) (h2 : SpM W v r' c' (mvals c' ys)) => smul_any (j := 128) (l := 128) W u v r c r' c' _ _ h1 h2 (by omega) (by omega) (by omega) (by omega) (fun _ _ => hzx _) (fun _ _ => hzy _) (by omega) (by omega)
  have c9 := fun W u v (h1 : MatAt W u r c xs) (h2 : MatAt W v r' c' ys) => mmul_any (j := 128) (l := 128) W u v r c r' c' xs ys h1 h2 (by omega) (by omega) (by omega) (by omega) hzx hzy (by omega)
  have c10 := fun W s m (h1 : SpM W s r c (mvals c xs)) (h2 : MatAt W m r c xs) => eq_self W s m r c xs h1 h2 hlx (by omega) (by omega)
  have c12 := fun W v (h : SpM W v r c (mvals c xs)) => turn_any (j := 128) W v r c (mvals c xs) h (by omega) (by omega) (fun _ _ => hzx _) (by omega)
  have c13 := fun W v (h : MatAt W v r c xs) => mturn_any W v r c xs h (by omega) (by omega)
  have c14 := fun lo W v (hlo : lo ≤ W.heap.size) (h : SpM W v r c (mvals c xs)) => sscale_at (j := 128) (l := 128) lo W cc v r c (mvals c xs) h hlo (by omega) (by omega) hzc (fun _ _ => hzx _) (by omega)
  have c15 := fun W v (h : MatAt W v r c xs) => mscale_at (j := 128) (l := 128) W cc v r c xs h (by omega) (by omega) hzc hzx (by omega)
  have c18 := fun W u v (h1 : SpM W u r c (mvals c xs)) (h2 : VecAt W v ps) => sapp_any (j := 128) (l := 128) W u v r c lv xs ps h1 h2 hlp (by omega) (by omega) (by omega) hzx hzp (by omega)
  have c19 := fun W u v (h1 : MatAt W u r c xs) (hk : CapOk u) (h2 : VecAt W v ps) => mapp_any (j := 128) (l := 128) W u v r c lv xs ps h1 hk h2 hlp (by omega) (by omega) (by omega) hzx hzp (by omega)
  have c20 := fun W u v z (h1 : SpM W u r c (mvals c xs)) (h2 : VecAt W v ps) (h3 : VecAt W z ts) => sform_any (j := 128) (l := 128) W u v z r c lv lw xs ps ts h1 h2 h3 hlp hlt (by omega) (by omega) (by omega) (by omega) hzx hzp hzt (by omega) (by omega)
  have c21 := fun W u v z (h1 : MatAt W u r c xs) (hk : CapOk u) (h2 : VecAt W v ps) (h3 : VecAt W z ts) => mform_any (j := 128) (l := 128) W u v z r c lv lw xs ps ts h1 hk h2 h3 hlp hlt (by omega) (by omega) (by omega) (by omega) hzx hzp hzt (by omega) (by omega)
  have c22 := fun W v (h : SpM W v r c (mvals c xs)) => ssym_eq (j := 128) W v r c xs h hlx (by omega) (by omega) hzx (by omega)
  have c23 := fun W v (h : MatAt W v r c xs) => msymm_any W v r c xs h (by omega) (by omega)
  obtain ⟨sb, hsb⟩ : ∃ sb, sb = sameD r c xs c r (dense c r fun k i => mvals c xs i k) := ⟨_, rfl⟩
  rw [← hsb] at c22 c23
  have hAL : (mappL r c xs ps).length ≤ 4096 := by simp only [mappL, List.length_map, List.length_range]; omega
  obtain ⟨AL, hALe⟩ : ∃ L, L = mappL r c xs ps := ⟨_, rfl⟩
  rw [← hALe] at c18 c19 hAL
  obtain ⟨fz, hfz⟩ : ∃ z, z = dotV ps (mappL r c xs ts) r := ⟨_, rfl⟩
  rw [← hfz] at c20 c21
  obtain ⟨bad1, hbad1⟩ : ∃ z, z = sizesDiffer r c r' c' := ⟨_, rfl⟩
  rw [← hbad1] at c6 c7
  obtain ⟨bad2, hbad2⟩ : ∃ z, z = (!decide (c = r')) := ⟨_, rfl⟩
  rw [← hbad2] at c8 c9
  obtain ⟨bad3, hbad3⟩ : ∃ z, z = (!decide (lv = c)) := ⟨_, rfl⟩
  rw [← hbad3] at c18 c19
  obtain ⟨bad4, hbad4⟩ : ∃ z, z = (!(decide (lv = r) && decide (lw = c))) := ⟨_, rfl⟩
  rw [← hbad4] at c20 c21
  obtain ⟨F1, hF1⟩ : ∃ F, F = (fun i k => mvals c xs i k + mvals c ys i k) := ⟨_, rfl⟩
  rw [← hF1] at c6 c7
  obtain ⟨F2, hF2⟩ : ∃ F, F = mulF c (mvals c xs) (mvals c' ys) := ⟨_, rfl⟩
  rw [← hF2] at c8 c9
  have c11 := fun W s m e f (h1 : PRes bad1 r c F1 W s e) (h2 : DRes bad1 r c F1 W m f) => eq_res h1 h2 (by omega) (by omega)
  have c11' := fun W s m e f (h1 : PRes bad2 r c' F2 W s e) (h2 : DRes bad2 r c' F2 W m f) => eq_res h1 h2 (by omega) (by omega)
  have c16 := fun W s m f F (h1 : SpM W s c r F) (h2 : DRes false c r F W m f) => eq_res (pres_ok h1) h2 (by omega) (by omega)
  have c17 := fun W s m f F (h1 : SpM W s r c F) (h2 : DRes false r c F W m f) => eq_res (pres_ok h1) h2 (by omega) (by omega)
  have c24 := fun W v v' e e' (h1 : VRes bad3 AL W v e) (h2 : VRes bad3 AL W v' e') => vsame_res W h1 h2 hAL
  have k1 : ¬ (6 : Int) < lv := by omega
  have k2 : ¬ (6 : Int) < lw := by omega
  have HB := Lib.hid (And.intro hr6 (And.intro hc6 (And.intro hr6' hc6')))
  clear hr hcc hr' hcc' hxs hys hps hts hzx hzy hzp hzt hlx hly hlt hlp hr6 hc6 hr6' hc6' hrc hrc' hm1 hm2 hm3 hLa hLb hLv hLw hoa hob hov how hla hlb hlv hlw hbad1 hbad2 hbad3 hbad4 hF1 hF2 hALe hfz hsb hAL hcq hzc hn0 hn1 hd0 hd1
  obtain ⟨X, hX⟩ : ∃ X, X = w.heap.size := ⟨_, rfl⟩
  have HX := Lib.hid hX
  go_enter Tryz.func8, Tryz.ntmps8
  go_wp2_with fail
  ((with_reducible refine (c0 _ _ 74 ?_).mono ?_))
  · exact Bx.new_at _ _ _ (by simp)
  rintro e w1 ⟨rfl, hb⟩
  have hin := (((((In.self w).alloc (.cells #[.int .i64 cn, .int .u32 cd] 35)).alloc (.cells #[.int .u8 R0, .int .u8 C0, .slice a la ca] 74)).alloc (.cells #[.int .u8 R1, .int .u8 C1, .slice b lb cb] 74)).alloc (.cells #[.int .u8 R0, .int .u8 C0, .slice a la ca, .int .u8 R1, .int .u8 C1, .slice b lb cb] 74)).call hb
  have bq := ((((Bx.new_at w #[.int .i64 cn, .int .u32 cd] 35 hX).alloc (.cells #[.int .u8 R0, .int .u8 C0, .slice a la ca] 74)).alloc (.cells #[.int .u8 R1, .int .u8 C1, .slice b lb cb] 74)).alloc (.cells #[.int .u8 R0, .int .u8 C0, .slice a la ca, .int .u8 R1, .int .u8 C1, .slice b lb cb] 74)).call hb
  have ba := (((Bx.new_at (w.alloc (.cells #[.int .i64 cn, .int .u32 cd] 35)) #[.int .u8 R0, .int .u8 C0, .slice a la ca] 74 (n := X + 1) (by simp [hX])).alloc (.cells #[.int .u8 R1, .int .u8 C1, .slice b lb cb] 74)).alloc (.cells #[.int .u8 R0, .int .u8 C0, .slice a la ca, .int .u8 R1, .int .u8 C1, .slice b lb cb] 74)).call hb
  have bb := ((Bx.new_at ((w.alloc (.cells #[.int .i64 cn, .int .u32 cd] 35)).alloc (.cells #[.int .u8 R0, .int .u8 C0, .slice a la ca] 74)) #[.int .u8 R1, .int .u8 C1, .slice b lb cb] 74 (n := X + 1 + 1) (by simp [hX])).alloc (.cells #[.int .u8 R0, .int .u8 C0, .slice a la ca, .int .u8 R1, .int .u8 C1, .slice b lb cb] 74)).call hb
  replace hqa := hqa.call hin.bel
  replace hqb := hqb.call hin.bel
  replace hqv := hqv.call hin.bel
  replace hqw := hqw.call hin.bel
  rw [← hX]
  clear hX hb c0
  have a0 := ba.c0
  have a1 := ba.c1
  have a2 := ba.c2
  have al := ba.lt
  have b0 := bb.c0
  have b1 := bb.c1
  have b2 := bb.c2
  have bl := bb.lt
  go_upto_region 3 with fail
  have h := In.self w1
  have hc := h.cell
  refine wp_region_flow 6 (by kernel_rfl) (by kernel_rfl) (fun _ _ d _ _ h => by cases d <;> exact h) ?_; simp only [List.take_succ_cons, List.take_zero, List.drop_succ_cons, List.drop_zero]; simp only [putAll, Act.put, List.setIfInBounds_toArray, List.set]; (try simp only [Nat.reduceAdd]); (try simp only [Nat.zero_add]); (repeat (first | ((with_reducible refine flow_float (v := ?_) ?_ ?_ ?_); rotate_left 1; (focus (with_reducible rfl)); (focus (intro u w1 hw hd w2; (try simp only [depH] at hd); (try simp only [ext] at hd); (try simp only [extU] at hd); (try simp only [Nat.reduceAdd] at hd); (try simp only [Nat.reduceEqDiff] at hd); (try simp only [reduceIte] at hd); (try simp only [if_true] at hd); (try simp only [if_false] at hd); (try simp only [and_true] at hd); (try simp only [true_and] at hd); go_simp; exact rfl))) | ((with_reducible refine flow_pure0 (v := ?_) ?_ ?_ ?_ ?_); rotate_left 1; (focus (with_reducible rfl)); (focus rfl); (focus (intro u w1 hw hd; (try simp only [depH] at hd); (try simp only [ext] at hd); (try simp only [extU] at hd); (try simp only [Nat.reduceAdd] at hd); (try simp only [Nat.reduceEqDiff] at hd); (try simp only [reduceIte] at hd); (try simp only [if_true] at hd); (try simp only [if_false] at hd); (try simp only [and_true] at hd); (try simp only [true_and] at hd); have hc' := hw.cell; go_simp; exact rfl))) | ((with_reducible refine flow_skipg (j := ?_) (b := ?_) ?_ ?_ ?_); rotate_left 2; (focus (with_reducible rfl)); (focus (intro u w1 hw hd; (try simp only [depH] at hd); (try simp only [ext] at hd); (try simp only [extU] at hd); (try simp only [Nat.reduceAdd] at hd); (try simp only [Nat.reduceEqDiff] at hd); (try simp only [reduceIte] at hd); (try simp only [if_true] at hd); (try simp only [if_false] at hd); (try simp only [and_true] at hd); (try simp only [true_and] at hd); simp [yielded, hd]; done))) | ((with_reducible refine flow_pureg (v := ?_) (j := ?_) (b := ?_) ?_ ?_ ?_ ?_); rotate_left 3; (focus (with_reducible rfl)); (focus (intro u w1 hw hd; (try simp only [depH] at hd); (try simp only [ext] at hd); (try simp only [extU] at hd); (try simp only [Nat.reduceAdd] at hd); (try simp only [Nat.reduceEqDiff] at hd); (try simp only [reduceIte] at hd); (try simp only [if_true] at hd); (try simp only [if_false] at hd); (try simp only [and_true] at hd); (try simp only [true_and] at hd); simp [yielded, hd]; done)); (focus (intro u w1 hw hd; (try simp only [depH] at hd); (try simp only [ext] at hd); (try simp only [extU] at hd); (try simp only [Nat.reduceAdd] at hd); (try simp only [Nat.reduceEqDiff] at hd); (try simp only [reduceIte] at hd); (try simp only [if_true] at hd); (try simp only [if_false] at hd); (try simp only [and_true] at hd); (try simp only [true_and] at hd); have hc' := hw.cell; go_simp; exact rfl))) | ((with_reducible refine flow_alloc (t := ?_) (zs := ?_) ?_ ?_ ?_ ?_); rotate_left 2; (focus (with_reducible rfl)); (focus rfl); (focus (intro u w1; go_simp; exact rfl)))))
  (with_reducible refine flow_rel (Vi := MatC r c xs) false ?_ ?_ ?_ ?_ ?_ ?_); (focus rfl); (focus rfl); (focus exact stable_matc _ _ _); (focus exact placed_false _); (focus (intro u w1 hw hd; (try simp only [depH] at hd); (try simp only [ext] at hd); (try simp only [extU] at hd); (try simp only [Nat.reduceAdd] at hd); (try simp only [Nat.reduceEqDiff] at hd); (try simp only [reduceIte] at hd); (try simp only [if_true] at hd); (try simp only [if_false] at hd); (try simp only [and_true] at hd); (try simp only [true_and] at hd); have hc' := hw.cell; go_simp; (try simp only [okUpon]); go_at_call 25; ((with_reducible refine (c1 _ (hqa.call hw.ins.bel)).mono ?_)); rintro e w'' ⟨⟨v, rfl, hv⟩, hb⟩; exact ⟨v, rfl, ⟨hv, fun h => by cases h⟩, hb⟩))
  (repeat (first | ((with_reducible refine flow_float (v := ?_) ?_ ?_ ?_); rotate_left 1; (focus (with_reducible rfl)); (focus (intro u w1 hw hd w2; (try simp only [depH] at hd); (try simp only [ext] at hd); (try simp only [extU] at hd); (try simp only [Nat.reduceAdd] at hd); (try simp only [Nat.reduceEqDiff] at hd); (try simp only [reduceIte] at hd); (try simp only [if_true] at hd); (try simp only [if_false] at hd); (try simp only [and_true] at hd); (try simp only [true_and] at hd); go_simp; exact rfl))) | ((with_reducible refine flow_pure0 (v := ?_) ?_ ?_ ?_ ?_); rotate_left 1; (focus (with_reducible rfl)); (focus rfl); (focus (intro u w1 hw hd; (try simp only [depH] at hd); (try simp only [ext] at hd); (try simp only [extU] at hd); (try simp only [Nat.reduceAdd] at hd); (try simp only [Nat.reduceEqDiff] at hd); (try simp only [reduceIte] at hd); (try simp only [if_true] at hd); (try simp only [if_false] at hd); (try simp only [and_true] at hd); (try simp only [true_and] at hd); have hc' := hw.cell; go_simp; exact rfl))) | ((with_reducible refine flow_skipg (j := ?_) (b := ?_) ?_ ?_ ?_); rotate_left 2; (focus (with_reducible rfl)); (focus (intro u w1 hw hd; (try simp only [depH] at hd); (try simp only [ext] at hd); (try simp only [extU] at hd); (try simp only [Nat.reduceAdd] at hd); (try simp only [Nat.reduceEqDiff] at hd); (try simp only [reduceIte] at hd); (try simp only [if_true] at hd); (try simp only [if_false] at hd); (try simp only [and_true] at hd); (try simp only [true_and] at hd); simp [yielded, hd]; done))) | ((with_reducible refine flow_pureg (v := ?_) (j := ?_) (b := ?_) ?_ ?_ ?_ ?_); rotate_left 3; (focus (with_reducible rfl)); (focus (intro u w1 hw hd; (try simp only [depH] at hd); (try simp only [ext] at hd); (try simp only [extU] at hd); (try simp only [Nat.reduceAdd] at hd); (try simp only [Nat.reduceEqDiff] at hd); (try simp only [reduceIte] at hd); (try simp only [if_true] at hd); (try simp only [if_false] at hd); (try simp only [and_true] at hd); (try simp only [true_and] at hd); simp [yielded, hd]; done)); (focus (intro u w1 hw hd; (try simp only [depH] at hd); (try simp only [ext] at hd); (try simp only [extU] at hd); (try simp only [Nat.reduceAdd] at hd); (try simp only [Nat.reduceEqDiff] at hd); (try simp only [reduceIte] at hd); (try simp only [if_true] at hd); (try simp only [if_false] at hd); (try simp only [and_true] at hd); (try simp only [true_and] at hd); have hc' := hw.cell; go_simp; exact rfl))) | ((with_reducible refine flow_alloc (t := ?_) (zs := ?_) ?_ ?_ ?_ ?_); rotate_left 2; (focus (with_reducible rfl)); (focus rfl); (focus (intro u w1; go_simp; exact rfl)))))
  (with_reducible refine flow_rel (Vi := MatC r' c' ys) false ?_ ?_ ?_ ?_ ?_ ?_); (focus rfl); (focus rfl); (focus exact stable_matc _ _ _); (focus exact placed_false _); (focus (intro u w1 hw hd; (try simp only [depH] at hd); (try simp only [ext] at hd); (try simp only [extU] at hd); (try simp only [Nat.reduceAdd] at hd); (try simp only [Nat.reduceEqDiff] at hd); (try simp only [reduceIte] at hd); (try simp only [if_true] at hd); (try simp only [if_false] at hd); (try simp only [and_true] at hd); (try simp only [true_and] at hd); have hc' := hw.cell; go_simp; (try simp only [okUpon]); go_at_call 25; ((with_reducible refine (c2 _ (hqb.call hw.ins.bel)).mono ?_)); rintro e w'' ⟨⟨v, rfl, hv⟩, hb⟩; exact ⟨v, rfl, ⟨hv, fun h => by cases h⟩, hb⟩))
  (repeat (first | ((with_reducible refine flow_float (v := ?_) ?_ ?_ ?_); rotate_left 1; (focus (with_reducible rfl)); (focus (intro u w1 hw hd w2; (try simp only [depH] at hd); (try simp only [ext] at hd); (try simp only [extU] at hd); (try simp only [Nat.reduceAdd] at hd); (try simp only [Nat.reduceEqDiff] at hd); (try simp only [reduceIte] at hd); (try simp only [if_true] at hd); (try simp only [if_false] at hd); (try simp only [and_true] at hd); (try simp only [true_and] at hd); go_simp; exact rfl))) | ((with_reducible refine flow_pure0 (v := ?_) ?_ ?_ ?_ ?_); rotate_left 1; (focus (with_reducible rfl)); (focus rfl); (focus (intro u w1 hw hd; (try simp only [depH] at hd); (try simp only [ext] at hd); (try simp only [extU] at hd); (try simp only [Nat.reduceAdd] at hd); (try simp only [Nat.reduceEqDiff] at hd); (try simp only [reduceIte] at hd); (try simp only [if_true] at hd); (try simp only [if_false] at hd); (try simp only [and_true] at hd); (try simp only [true_and] at hd); have hc' := hw.cell; go_simp; exact rfl))) | ((with_reducible refine flow_skipg (j := ?_) (b := ?_) ?_ ?_ ?_); rotate_left 2; (focus (with_reducible rfl)); (focus (intro u w1 hw hd; (try simp only [depH] at hd); (try simp only [ext] at hd); (try simp only [extU] at hd); (try simp only [Nat.reduceAdd] at hd); (try simp only [Nat.reduceEqDiff] at hd); (try simp only [reduceIte] at hd); (try simp only [if_true] at hd); (try simp only [if_false] at hd); (try simp only [and_true] at hd); (try simp only [true_and] at hd); simp [yielded, hd]; done))) | ((with_reducible refine flow_pureg (v := ?_) (j := ?_) (b := ?_) ?_ ?_ ?_ ?_); rotate_left 3; (focus (with_reducible rfl)); (focus (intro u w1 hw hd; (try simp only [depH] at hd); (try simp only [ext] at hd); (try simp only [extU] at hd); (try simp only [Nat.reduceAdd] at hd); (try simp only [Nat.reduceEqDiff] at hd); (try simp only [reduceIte] at hd); (try simp only [if_true] at hd); (try simp only [if_false] at hd); (try simp only [and_true] at hd); (try simp only [true_and] at hd); simp [yielded, hd]; done)); (focus (intro u w1 hw hd; (try simp only [depH] at hd); (try simp only [ext] at hd); (try simp only [extU] at hd); (try simp only [Nat.reduceAdd] at hd); (try simp only [Nat.reduceEqDiff] at hd); (try simp only [reduceIte] at hd); (try simp only [if_true] at hd); (try simp only [if_false] at hd); (try simp only [and_true] at hd); (try simp only [true_and] at hd); have hc' := hw.cell; go_simp; exact rfl))) | ((with_reducible refine flow_alloc (t := ?_) (zs := ?_) ?_ ?_ ?_ ?_); rotate_left 2; (focus (with_reducible rfl)); (focus rfl); (focus (intro u w1; go_simp; exact rfl)))))
  (try clear hc hf h); intro u w' h ha hdi; replace h := h.ins; (try simp only [World.size_alloc] at h); (try dsimp only at ha); (repeat rw [World.size_alloc] at ha); (try simp only [allH] at ha); (try simp only [ext] at ha); (try simp only [extU] at ha); (try simp only [Nat.reduceAdd] at ha); (try simp only [Nat.reduceEqDiff] at ha); (try simp only [reduceIte] at ha); (try simp only [if_true] at ha); (try simp only [if_false] at ha); (try simp only [and_true] at ha); (try simp only [true_and] at ha); have hc := h.cell; have hf := h.frozen
  obtain ⟨⟨⟨⟨⟨ha, hm1⟩, ha2⟩, hm2⟩, S1, hu4, hS1, bS1⟩, S2, hu5, hS2, bS2⟩ := ha
  obtain ⟨hm1, hk1⟩ := hm1
  obtain ⟨hm2, hk2⟩ := hm2
  obtain ⟨ax, kx, hu1⟩ := hm1.shape
  obtain ⟨ay, ky, hu3⟩ := hm2.shape
  rw [hu1] at hm1 hk1
  rw [hu3] at hm2
  clear hk2
  obtain ⟨L, hL⟩ : ∃ L, L = xs.length := ⟨_, rfl⟩
  obtain ⟨L', hL'⟩ : ∃ L, L = ys.length := ⟨_, rfl⟩
  rw [← hL] at hm1 hk1 hu1
  rw [← hL'] at hm2 hu3
  clear hL hL'
  have hne' := hdi 4 5 (by decide) (by decide) (by decide) rfl rfl _ (by rw [hu4]; rfl); rw [hu5] at hne'; have hne : ¬ S2 = S1 := fun h => hne' (congrArg some h); have hne_ : ¬ S1 = S2 := fun h => hne h.symm; clear hne'
  (try obtain ha := ha); (try dsimp only);  simp only [ha, ha2, hu1, hu3, hu4, hu5]; clear ha hdi ha2 hu1 hu3 hu4 hu5
  have p0 := bS1.c0
  have p1 := bS1.c1
  have p2 := bS1.c2
  have pf0 := bS1.frozen 0
  have pf1 := bS1.frozen 1
  have pf2 := bS1.frozen 2
  have pl := bS1.lt
  have q0 := bS2.c0
  have q1 := bS2.c1
  have q2 := bS2.c2
  have qf0 := bS2.frozen 0
  have qf1 := bS2.frozen 1
  have qf2 := bS2.frozen 2
  have ql := bS2.lt
  have KS1 := Lib.hid ((((((bS1.set 0 (.int .i64 r)).set 1 (.int .i64 c)).set 2 (.slice ax L kx)).other (a := ⟨S2, 0, none⟩) hne (.int .i64 r')).other (a := ⟨S2, 1, none⟩) hne (.int .i64 c')).other (a := ⟨S2, 2, none⟩) hne (.slice ay L' ky))
  have KS2 := Lib.hid ((((((bS2.other (a := ⟨S1, 0, none⟩) hne_ (.int .i64 r)).other (a := ⟨S1, 1, none⟩) hne_ (.int .i64 c)).other (a := ⟨S1, 2, none⟩) hne_ (.slice ax L kx)).set 0 (.int .i64 r')).set 1 (.int .i64 c')).set 2 (.slice ay L' ky))
  have KH := Lib.hid ((((((h.setCell (p := ⟨S1, 0, none⟩) (by simp; omega) (.int .i64 r)).setCell (p := ⟨S1, 1, none⟩) (by simp; omega) (.int .i64 c)).setCell (p := ⟨S1, 2, none⟩) (by simp; omega) (.slice ax L kx)).setCell (p := ⟨S2, 0, none⟩) (by simp; omega) (.int .i64 r')).setCell (p := ⟨S2, 1, none⟩) (by simp; omega) (.int .i64 c')).setCell (p := ⟨S2, 2, none⟩) (by simp; omega) (.slice ay L' ky))
  have KR1 := Lib.hid ((hm1.put3 (p' := r) (q' := c) (ao' := ax) (n' := L) (k' := kx) bS1).put3 (p' := r') (q' := c') (ao' := ay) (n' := L') (k' := ky) (((bS2.other (a := ⟨S1, 0, none⟩) hne_ (.int .i64 r)).other (a := ⟨S1, 1, none⟩) hne_ (.int .i64 c)).other (a := ⟨S1, 2, none⟩) hne_ (.slice ax L kx)))
  have KR2 := Lib.hid ((hm2.put3 (p' := r) (q' := c) (ao' := ax) (n' := L) (k' := kx) bS1).put3 (p' := r') (q' := c') (ao' := ay) (n' := L') (k' := ky) (((bS2.other (a := ⟨S1, 0, none⟩) hne_ (.int .i64 r)).other (a := ⟨S1, 1, none⟩) hne_ (.int .i64 c)).other (a := ⟨S1, 2, none⟩) hne_ (.slice ax L kx)))
  clear hc hf h hS1 hS2 bS1 bS2 hm1 hm2 a0 a1 a2 al b0 b1 b2 bl ba bb hqa hqb c1 c2
  go_upto_region 4 with fail
  have hb := KH.out.bel
  have bS1 := KS1.out
  have bS2 := KS2.out
  have hm1 := KR1.out
  have hm2 := KR2.out
  simp only [List.set] at bS1 bS2
  replace hin := hin.call hb
  replace hqv := hqv.call hb
  replace hqw := hqw.call hb
  replace bq := bq.call hb
  clear KS1 KS2 KH KR1 KR2 hb p0 p1 p2 pf0 pf1 pf2 pl q0 q1 q2 qf0 qf1 qf2 ql hne hne_
  generalize (((((w'.setCell ⟨S1, 0, none⟩ (.int .i64 r)).setCell ⟨S1, 1, none⟩ (.int .i64 c)).setCell ⟨S1, 2, none⟩ (.slice ax L kx)).setCell ⟨S2, 0, none⟩ (.int .i64 r')).setCell ⟨S2, 1, none⟩ (.int .i64 c')).setCell ⟨S2, 2, none⟩ (.slice ay L' ky) = W2 at *
  have x0 := bS1.c0
  have x1 := bS1.c1
  have x2 := bS1.c2
  have xl := bS1.lt
  have y0 := bS2.c0
  have y1 := bS2.c1
  have y2 := bS2.c2
  have yl := bS2.lt
  go_upto_region 4 with fail
  have h := In.self W2
  have hc := h.cell
  refine wp_region_flow 6 (by kernel_rfl) (by kernel_rfl) (fun _ _ d _ _ h => by cases d <;> exact h) ?_; simp only [List.take_succ_cons, List.take_zero, List.drop_succ_cons, List.drop_zero]; simp only [putAll, Act.put, List.setIfInBounds_toArray, List.set]; (try simp only [Nat.reduceAdd]); (try simp only [Nat.zero_add]); (repeat (first | ((with_reducible refine flow_float (v := ?_) ?_ ?_ ?_); rotate_left 1; (focus (with_reducible rfl)); (focus (intro u w1 hw hd w2; (try simp only [depH] at hd); (try simp only [ext] at hd); (try simp only [extU] at hd); (try simp only [Nat.reduceAdd] at hd); (try simp only [Nat.reduceEqDiff] at hd); (try simp only [reduceIte] at hd); (try simp only [if_true] at hd); (try simp only [if_false] at hd); (try simp only [and_true] at hd); (try simp only [true_and] at hd); go_simp; exact rfl))) | ((with_reducible refine flow_pure0 (v := ?_) ?_ ?_ ?_ ?_); rotate_left 1; (focus (with_reducible rfl)); (focus rfl); (focus (intro u w1 hw hd; (try simp only [depH] at hd); (try simp only [ext] at hd); (try simp only [extU] at hd); (try simp only [Nat.reduceAdd] at hd); (try simp only [Nat.reduceEqDiff] at hd); (try simp only [reduceIte] at hd); (try simp only [if_true] at hd); (try simp only [if_false] at hd); (try simp only [and_true] at hd); (try simp only [true_and] at hd); have hc' := hw.cell; go_simp; exact rfl))) | ((with_reducible refine flow_skipg (j := ?_) (b := ?_) ?_ ?_ ?_); rotate_left 2; (focus (with_reducible rfl)); (focus (intro u w1 hw hd; (try simp only [depH] at hd); (try simp only [ext] at hd); (try simp only [extU] at hd); (try simp only [Nat.reduceAdd] at hd); (try simp only [Nat.reduceEqDiff] at hd); (try simp only [reduceIte] at hd); (try simp only [if_true] at hd); (try simp only [if_false] at hd); (try simp only [and_true] at hd); (try simp only [true_and] at hd); simp [yielded, hd]; done))) | ((with_reducible refine flow_pureg (v := ?_) (j := ?_) (b := ?_) ?_ ?_ ?_ ?_); rotate_left 3; (focus (with_reducible rfl)); (focus (intro u w1 hw hd; (try simp only [depH] at hd); (try simp only [ext] at hd); (try simp only [extU] at hd); (try simp only [Nat.reduceAdd] at hd); (try simp only [Nat.reduceEqDiff] at hd); (try simp only [reduceIte] at hd); (try simp only [if_true] at hd); (try simp only [if_false] at hd); (try simp only [and_true] at hd); (try simp only [true_and] at hd); simp [yielded, hd]; done)); (focus (intro u w1 hw hd; (try simp only [depH] at hd); (try simp only [ext] at hd); (try simp only [extU] at hd); (try simp only [Nat.reduceAdd] at hd); (try simp only [Nat.reduceEqDiff] at hd); (try simp only [reduceIte] at hd); (try simp only [if_true] at hd); (try simp only [if_false] at hd); (try simp only [and_true] at hd); (try simp only [true_and] at hd); have hc' := hw.cell; go_simp; exact rfl))) | ((with_reducible refine flow_alloc (t := ?_) (zs := ?_) ?_ ?_ ?_ ?_); rotate_left 2; (focus (with_reducible rfl)); (focus rfl); (focus (intro u w1; go_simp; exact rfl)))))
  (with_reducible refine flow_rel (Vi := SpR W2.heap.size r c (mvals c xs)) false ?_ ?_ ?_ ?_ ?_ ?_); (focus rfl); (focus rfl); (focus exact stable_spr _ _ _ _); (focus exact placed_false _); (focus (intro u w1 hw hd; (try simp only [depH] at hd); (try simp only [ext] at hd); (try simp only [extU] at hd); (try simp only [Nat.reduceAdd] at hd); (try simp only [Nat.reduceEqDiff] at hd); (try simp only [reduceIte] at hd); (try simp only [if_true] at hd); (try simp only [if_false] at hd); (try simp only [and_true] at hd); (try simp only [true_and] at hd); have hc' := hw.cell; go_simp; (try simp only [okUpon]); go_at_call 29; ((with_reducible refine (c3 _ _ _ hw.ins.siz (hm1.call hw.ins.bel)).mono ?_)); rintro e w'' ⟨⟨v, rfl, hv⟩, hb⟩; exact ⟨v, rfl, ⟨hv, fun h => by cases h⟩, hb⟩))
  (repeat (first | ((with_reducible refine flow_float (v := ?_) ?_ ?_ ?_); rotate_left 1; (focus (with_reducible rfl)); (focus (intro u w1 hw hd w2; (try simp only [depH] at hd); (try simp only [ext] at hd); (try simp only [extU] at hd); (try simp only [Nat.reduceAdd] at hd); (try simp only [Nat.reduceEqDiff] at hd); (try simp only [reduceIte] at hd); (try simp only [if_true] at hd); (try simp only [if_false] at hd); (try simp only [and_true] at hd); (try simp only [true_and] at hd); go_simp; exact rfl))) | ((with_reducible refine flow_pure0 (v := ?_) ?_ ?_ ?_ ?_); rotate_left 1; (focus (with_reducible rfl)); (focus rfl); (focus (intro u w1 hw hd; (try simp only [depH] at hd); (try simp only [ext] at hd); (try simp only [extU] at hd); (try simp only [Nat.reduceAdd] at hd); (try simp only [Nat.reduceEqDiff] at hd); (try simp only [reduceIte] at hd); (try simp only [if_true] at hd); (try simp only [if_false] at hd); (try simp only [and_true] at hd); (try simp only [true_and] at hd); have hc' := hw.cell; go_simp; exact rfl))) | ((with_reducible refine flow_skipg (j := ?_) (b := ?_) ?_ ?_ ?_); rotate_left 2; (focus (with_reducible rfl)); (focus (intro u w1 hw hd; (try simp only [depH] at hd); (try simp only [ext] at hd); (try simp only [extU] at hd); (try simp only [Nat.reduceAdd] at hd); (try simp only [Nat.reduceEqDiff] at hd); (try simp only [reduceIte] at hd); (try simp only [if_true] at hd); (try simp only [if_false] at hd); (try simp only [and_true] at hd); (try simp only [true_and] at hd); simp [yielded, hd]; done))) | ((with_reducible refine flow_pureg (v := ?_) (j := ?_) (b := ?_) ?_ ?_ ?_ ?_); rotate_left 3; (focus (with_reducible rfl)); (focus (intro u w1 hw hd; (try simp only [depH] at hd); (try simp only [ext] at hd); (try simp only [extU] at hd); (try simp only [Nat.reduceAdd] at hd); (try simp only [Nat.reduceEqDiff] at hd); (try simp only [reduceIte] at hd); (try simp only [if_true] at hd); (try simp only [if_false] at hd); (try simp only [and_true] at hd); (try simp only [true_and] at hd); simp [yielded, hd]; done)); (focus (intro u w1 hw hd; (try simp only [depH] at hd); (try simp only [ext] at hd); (try simp only [extU] at hd); (try simp only [Nat.reduceAdd] at hd); (try simp only [Nat.reduceEqDiff] at hd); (try simp only [reduceIte] at hd); (try simp only [if_true] at hd); (try simp only [if_false] at hd); (try simp only [and_true] at hd); (try simp only [true_and] at hd); have hc' := hw.cell; go_simp; exact rfl))) | ((with_reducible refine flow_alloc (t := ?_) (zs := ?_) ?_ ?_ ?_ ?_); rotate_left 2; (focus (with_reducible rfl)); (focus rfl); (focus (intro u w1; go_simp; exact rfl)))))
  (with_reducible refine flow_rel (Vi := SpR W2.heap.size r' c' (mvals c' ys)) false ?_ ?_ ?_ ?_ ?_ ?_); (focus rfl); (focus rfl); (focus exact stable_spr _ _ _ _); (focus exact placed_false _); (focus (intro u w1 hw hd; (try simp only [depH] at hd); (try simp only [ext] at hd); (try simp only [extU] at hd); (try simp only [Nat.reduceAdd] at hd); (try simp only [Nat.reduceEqDiff] at hd); (try simp only [reduceIte] at hd); (try simp only [if_true] at hd); (try simp only [if_false] at hd); (try simp only [and_true] at hd); (try simp only [true_and] at hd); have hc' := hw.cell; go_simp; (try simp only [okUpon]); go_at_call 29; ((with_reducible refine (c4 _ _ _ hw.ins.siz (hm2.call hw.ins.bel)).mono ?_)); rintro e w'' ⟨⟨v, rfl, hv⟩, hb⟩; exact ⟨v, rfl, ⟨hv, fun h => by cases h⟩, hb⟩))
  (repeat (first | ((with_reducible refine flow_float (v := ?_) ?_ ?_ ?_); rotate_left 1; (focus (with_reducible rfl)); (focus (intro u w1 hw hd w2; (try simp only [depH] at hd); (try simp only [ext] at hd); (try simp only [extU] at hd); (try simp only [Nat.reduceAdd] at hd); (try simp only [Nat.reduceEqDiff] at hd); (try simp only [reduceIte] at hd); (try simp only [if_true] at hd); (try simp only [if_false] at hd); (try simp only [and_true] at hd); (try simp only [true_and] at hd); go_simp; exact rfl))) | ((with_reducible refine flow_pure0 (v := ?_) ?_ ?_ ?_ ?_); rotate_left 1; (focus (with_reducible rfl)); (focus rfl); (focus (intro u w1 hw hd; (try simp only [depH] at hd); (try simp only [ext] at hd); (try simp only [extU] at hd); (try simp only [Nat.reduceAdd] at hd); (try simp only [Nat.reduceEqDiff] at hd); (try simp only [reduceIte] at hd); (try simp only [if_true] at hd); (try simp only [if_false] at hd); (try simp only [and_true] at hd); (try simp only [true_and] at hd); have hc' := hw.cell; go_simp; exact rfl))) | ((with_reducible refine flow_skipg (j := ?_) (b := ?_) ?_ ?_ ?_); rotate_left 2; (focus (with_reducible rfl)); (focus (intro u w1 hw hd; (try simp only [depH] at hd); (try simp only [ext] at hd); (try simp only [extU] at hd); (try simp only [Nat.reduceAdd] at hd); (try simp only [Nat.reduceEqDiff] at hd); (try simp only [reduceIte] at hd); (try simp only [if_true] at hd); (try simp only [if_false] at hd); (try simp only [and_true] at hd); (try simp only [true_and] at hd); simp [yielded, hd]; done))) | ((with_reducible refine flow_pureg (v := ?_) (j := ?_) (b := ?_) ?_ ?_ ?_ ?_); rotate_left 3; (focus (with_reducible rfl)); (focus (intro u w1 hw hd; (try simp only [depH] at hd); (try simp only [ext] at hd); (try simp only [extU] at hd); (try simp only [Nat.reduceAdd] at hd); (try simp only [Nat.reduceEqDiff] at hd); (try simp only [reduceIte] at hd); (try simp only [if_true] at hd); (try simp only [if_false] at hd); (try simp only [and_true] at hd); (try simp only [true_and] at hd); simp [yielded, hd]; done)); (focus (intro u w1 hw hd; (try simp only [depH] at hd); (try simp only [ext] at hd); (try simp only [extU] at hd); (try simp only [Nat.reduceAdd] at hd); (try simp only [Nat.reduceEqDiff] at hd); (try simp only [reduceIte] at hd); (try simp only [if_true] at hd); (try simp only [if_false] at hd); (try simp only [and_true] at hd); (try simp only [true_and] at hd); have hc' := hw.cell; go_simp; exact rfl))) | ((with_reducible refine flow_alloc (t := ?_) (zs := ?_) ?_ ?_ ?_ ?_); rotate_left 2; (focus (with_reducible rfl)); (focus rfl); (focus (intro u w1; go_simp; exact rfl)))))
  (try clear hc hf h); intro u w' h ha hdi; replace h := h.ins; (try simp only [World.size_alloc] at h); (try dsimp only at ha); (repeat rw [World.size_alloc] at ha); (try simp only [allH] at ha); (try simp only [ext] at ha); (try simp only [extU] at ha); (try simp only [Nat.reduceAdd] at ha); (try simp only [Nat.reduceEqDiff] at ha); (try simp only [reduceIte] at ha); (try simp only [if_true] at ha); (try simp only [if_false] at ha); (try simp only [and_true] at ha); (try simp only [true_and] at ha); have hc := h.cell; have hf := h.frozen
  obtain ⟨⟨⟨⟨⟨ha, hs1⟩, ha2⟩, hs2⟩, S3, hu4, hS1, bS3⟩, S4, hu5, hS2, bS4⟩ := ha
  replace hs1 : SpN _ _ _ _ _ _ := hs1
  replace hs2 : SpN _ _ _ _ _ _ := hs2
  obtain ⟨sa, ks, hu1⟩ := hs1.m.shape
  obtain ⟨ta, kt, hu3⟩ := hs2.m.shape
  rw [hu1] at hs1
  rw [hu3] at hs2
  have hne' := hdi 4 5 (by decide) (by decide) (by decide) rfl rfl _ (by rw [hu4]; rfl); rw [hu5] at hne'; have hne : ¬ S4 = S3 := fun h => hne' (congrArg some h); have hne_ : ¬ S3 = S4 := fun h => hne h.symm; clear hne'
  (try obtain ha := ha); (try dsimp only);  simp only [ha, ha2, hu1, hu3, hu4, hu5]; clear ha hdi ha2 hu1 hu3 hu4 hu5
  have p0 := bS3.c0
  have p1 := bS3.c1
  have p2 := bS3.c2
  have pf0 := bS3.frozen 0
  have pf1 := bS3.frozen 1
  have pf2 := bS3.frozen 2
  have pl := bS3.lt
  have q0 := bS4.c0
  have q1 := bS4.c1
  have q2 := bS4.c2
  have qf0 := bS4.frozen 0
  have qf1 := bS4.frozen 1
  have qf2 := bS4.frozen 2
  have ql := bS4.lt
  have KS1 := Lib.hid ((((((bS3.set 0 (.int .i64 r)).set 1 (.int .i64 c)).set 2 (.slice sa r ks)).other (a := ⟨S4, 0, none⟩) hne (.int .i64 r')).other (a := ⟨S4, 1, none⟩) hne (.int .i64 c')).other (a := ⟨S4, 2, none⟩) hne (.slice ta r' kt))
  have KS2 := Lib.hid ((((((bS4.other (a := ⟨S3, 0, none⟩) hne_ (.int .i64 r)).other (a := ⟨S3, 1, none⟩) hne_ (.int .i64 c)).other (a := ⟨S3, 2, none⟩) hne_ (.slice sa r ks)).set 0 (.int .i64 r')).set 1 (.int .i64 c')).set 2 (.slice ta r' kt))
  have KH := Lib.hid ((((((h.setCell (p := ⟨S3, 0, none⟩) (by simp; omega) (.int .i64 r)).setCell (p := ⟨S3, 1, none⟩) (by simp; omega) (.int .i64 c)).setCell (p := ⟨S3, 2, none⟩) (by simp; omega) (.slice sa r ks)).setCell (p := ⟨S4, 0, none⟩) (by simp; omega) (.int .i64 r')).setCell (p := ⟨S4, 1, none⟩) (by simp; omega) (.int .i64 c')).setCell (p := ⟨S4, 2, none⟩) (by simp; omega) (.slice ta r' kt))
  have KR1 := Lib.hid (((hs1.put3 (x := .int .i64 r) (y := .int .i64 c) (z := .slice sa r ks) bS3).put3 (x := .int .i64 r') (y := .int .i64 c') (z := .slice ta r' kt) (((bS4.other (a := ⟨S3, 0, none⟩) hne_ (.int .i64 r)).other (a := ⟨S3, 1, none⟩) hne_ (.int .i64 c)).other (a := ⟨S3, 2, none⟩) hne_ (.slice sa r ks))).m)
  have KR2 := Lib.hid (((hs2.put3 (x := .int .i64 r) (y := .int .i64 c) (z := .slice sa r ks) bS3).put3 (x := .int .i64 r') (y := .int .i64 c') (z := .slice ta r' kt) (((bS4.other (a := ⟨S3, 0, none⟩) hne_ (.int .i64 r)).other (a := ⟨S3, 1, none⟩) hne_ (.int .i64 c)).other (a := ⟨S3, 2, none⟩) hne_ (.slice sa r ks))).m)
  clear hc hf h hS1 hS2 bS3 bS4 hs1 hs2 x0 x1 x2 xl y0 y1 y2 yl c3 c4
  go_upto_region 5 with fail
  have hb := KH.out.bel
  have bS3 := KS1.out
  have bS4 := KS2.out
  have hs1 := KR1.out
  have hs2 := KR2.out
  simp only [List.set] at bS3 bS4
  replace hin := hin.call hb
  replace hqv := hqv.call hb
  replace hqw := hqw.call hb
  replace bq := bq.call hb
  replace bS1 := bS1.call hb
  replace bS2 := bS2.call hb
  replace hm1 := hm1.call hb
  replace hm2 := hm2.call hb
  clear KS1 KS2 KH KR1 KR2 hb p0 p1 p2 pf0 pf1 pf2 pl q0 q1 q2 qf0 qf1 qf2 ql hne hne_
  generalize (((((w'.setCell ⟨S3, 0, none⟩ (.int .i64 r)).setCell ⟨S3, 1, none⟩ (.int .i64 c)).setCell ⟨S3, 2, none⟩ (.slice sa r ks)).setCell ⟨S4, 0, none⟩ (.int .i64 r')).setCell ⟨S4, 1, none⟩ (.int .i64 c')).setCell ⟨S4, 2, none⟩ (.slice ta r' kt) = W3 at *
  go_wp2_with fail
  ((with_reducible refine (c5 _ hqv).mono ?_))
  rintro e w4 ⟨⟨pv, rfl, hp⟩, hb⟩
  replace hin := hin.call hb
  replace hqv := hqv.call hb
  replace hqw := hqw.call hb
  replace bq := bq.call hb
  replace bS1 := bS1.call hb
  replace bS2 := bS2.call hb
  replace hm1 := hm1.call hb
  replace hm2 := hm2.call hb
  replace bS3 := bS3.call hb
  replace bS4 := bS4.call hb
  replace hs1 := hs1.call hb
  replace hs2 := hs2.call hb
  clear hb c5
  go_wp2_with fail
  ((with_reducible refine (c5' _ hqw).mono ?_))
  rintro e w5 ⟨⟨tv, rfl, ht⟩, hb⟩
  replace hin := hin.call hb
  replace hqv := hqv.call hb
  replace hqw := hqw.call hb
  replace bq := bq.call hb
  replace bS1 := bS1.call hb
  replace bS2 := bS2.call hb
  replace hm1 := hm1.call hb
  replace hm2 := hm2.call hb
  replace bS3 := bS3.call hb
  replace bS4 := bS4.call hb
  replace hs1 := hs1.call hb
  replace hs2 := hs2.call hb
  replace hp := hp.call hb
  clear hb c5' hqv hqw
  obtain ⟨pa, pk, rfl⟩ := hp.shape
  obtain ⟨ta2, tk2, rfl⟩ := ht.shape
  obtain ⟨lp, hlp⟩ : ∃ l, l = ps.length := ⟨_, rfl⟩
  obtain ⟨lt, hlt⟩ : ∃ l, l = ts.length := ⟨_, rfl⟩
  rw [← hlp] at hp ⊢
  rw [← hlt] at ht ⊢
  clear hlp hlt
  have x0 := bS3.c0
  have x1 := bS3.c1
  have x2 := bS3.c2
  have xl := bS3.lt
  have y0 := bS4.c0
  have y1 := bS4.c1
  have y2 := bS4.c2
  have yl := bS4.lt
  go_wp2_with fail
  ((with_reducible refine (c6 _ _ _ hs1 hs2).mono ?_))
  rintro e w6 ⟨⟨d1, e1, rfl, hA1⟩, hb⟩
  replace hin := hin.call hb
  replace bq := bq.call hb
  replace bS1 := bS1.call hb
  replace bS2 := bS2.call hb
  replace hm1 := hm1.call hb
  replace hm2 := hm2.call hb
  replace bS3 := bS3.call hb
  replace bS4 := bS4.call hb
  replace hs1 := hs1.call hb
  replace hs2 := hs2.call hb
  replace hp := hp.call hb
  replace ht := ht.call hb
  clear hb c6 x0 x1 x2 xl y0 y1 y2 yl
  obtain ⟨un, um, ua, ul, uk, rfl⟩ := hA1.1
  go_upto_region 7 with fail
  obtain ⟨S5, hS5⟩ : ∃ z, z = w6.heap.size := ⟨_, rfl⟩
  have bS5 := Bx.new_at w6 #[.int .i64 un, .int .i64 um, .slice ua ul uk] 63 hS5
  replace hin := hin.alloc (.cells #[.int .i64 un, .int .i64 um, .slice ua ul uk] 63)
  replace bq := bq.alloc (.cells #[.int .i64 un, .int .i64 um, .slice ua ul uk] 63)
  replace bS1 := bS1.alloc (.cells #[.int .i64 un, .int .i64 um, .slice ua ul uk] 63)
  replace bS2 := bS2.alloc (.cells #[.int .i64 un, .int .i64 um, .slice ua ul uk] 63)
  replace hm1 := hm1.call ((Below.refl _ _).alloc (Nat.le_refl _) (.cells #[.int .i64 un, .int .i64 um, .slice ua ul uk] 63))
  replace hm2 := hm2.call ((Below.refl _ _).alloc (Nat.le_refl _) (.cells #[.int .i64 un, .int .i64 um, .slice ua ul uk] 63))
  replace bS3 := bS3.alloc (.cells #[.int .i64 un, .int .i64 um, .slice ua ul uk] 63)
  replace bS4 := bS4.alloc (.cells #[.int .i64 un, .int .i64 um, .slice ua ul uk] 63)
  replace hs1 := hs1.call ((Below.refl _ _).alloc (Nat.le_refl _) (.cells #[.int .i64 un, .int .i64 um, .slice ua ul uk] 63))
  replace hs2 := hs2.call ((Below.refl _ _).alloc (Nat.le_refl _) (.cells #[.int .i64 un, .int .i64 um, .slice ua ul uk] 63))
  replace hp := hp.call ((Below.refl _ _).alloc (Nat.le_refl _) (.cells #[.int .i64 un, .int .i64 um, .slice ua ul uk] 63))
  replace ht := ht.call ((Below.refl _ _).alloc (Nat.le_refl _) (.cells #[.int .i64 un, .int .i64 um, .slice ua ul uk] 63))
  replace hA1 := hA1.call ((Below.refl _ _).alloc (Nat.le_refl _) (.cells #[.int .i64 un, .int .i64 um, .slice ua ul uk] 63))
  rw [← hS5]
  clear hS5
  generalize w6.alloc (.cells #[.int .i64 un, .int .i64 um, .slice ua ul uk] 63) = W6 at *
  have x0 := bS1.c0
  have x1 := bS1.c1
  have x2 := bS1.c2
  have xl := bS1.lt
  have y0 := bS2.c0
  have y1 := bS2.c1
  have y2 := bS2.c2
  have yl := bS2.lt
  go_wp2_with fail
  ((with_reducible refine (c7 _ _ _ hm1 hm2).mono ?_))
  rintro e w7 ⟨⟨d2, e2, rfl, hA2⟩, hb⟩
  replace hin := hin.call hb
  replace bq := bq.call hb
  replace bS1 := bS1.call hb
  replace bS2 := bS2.call hb
  replace hm1 := hm1.call hb
  replace hm2 := hm2.call hb
  replace bS3 := bS3.call hb
  replace bS4 := bS4.call hb
  replace hs1 := hs1.call hb
  replace hs2 := hs2.call hb
  replace hp := hp.call hb
  replace ht := ht.call hb
  replace hA1 := hA1.call hb
  replace bS5 := bS5.call hb
  clear hb c7 x0 x1 x2 xl y0 y1 y2 yl
  obtain ⟨vn, vm, va, vl, vk, rfl⟩ := hA2.1
  go_upto_region 8 with fail
  obtain ⟨S6, hS6⟩ : ∃ z, z = w7.heap.size := ⟨_, rfl⟩
  have bS6 := Bx.new_at w7 #[.int .i64 vn, .int .i64 vm, .slice va vl vk] 78 hS6
  replace hin := hin.alloc (.cells #[.int .i64 vn, .int .i64 vm, .slice va vl vk] 78)
  replace bq := bq.alloc (.cells #[.int .i64 vn, .int .i64 vm, .slice va vl vk] 78)
  replace bS1 := bS1.alloc (.cells #[.int .i64 vn, .int .i64 vm, .slice va vl vk] 78)
  replace bS2 := bS2.alloc (.cells #[.int .i64 vn, .int .i64 vm, .slice va vl vk] 78)
  replace hm1 := hm1.call ((Below.refl _ _).alloc (Nat.le_refl _) (.cells #[.int .i64 vn, .int .i64 vm, .slice va vl vk] 78))
  replace hm2 := hm2.call ((Below.refl _ _).alloc (Nat.le_refl _) (.cells #[.int .i64 vn, .int .i64 vm, .slice va vl vk] 78))
  replace bS3 := bS3.alloc (.cells #[.int .i64 vn, .int .i64 vm, .slice va vl vk] 78)
  replace bS4 := bS4.alloc (.cells #[.int .i64 vn, .int .i64 vm, .slice va vl vk] 78)
  replace hs1 := hs1.call ((Below.refl _ _).alloc (Nat.le_refl _) (.cells #[.int .i64 vn, .int .i64 vm, .slice va vl vk] 78))
  replace hs2 := hs2.call ((Below.refl _ _).alloc (Nat.le_refl _) (.cells #[.int .i64 vn, .int .i64 vm, .slice va vl vk] 78))
  replace hp := hp.call ((Below.refl _ _).alloc (Nat.le_refl _) (.cells #[.int .i64 vn, .int .i64 vm, .slice va vl vk] 78))
  replace ht := ht.call ((Below.refl _ _).alloc (Nat.le_refl _) (.cells #[.int .i64 vn, .int .i64 vm, .slice va vl vk] 78))
  replace hA1 := hA1.call ((Below.refl _ _).alloc (Nat.le_refl _) (.cells #[.int .i64 vn, .int .i64 vm, .slice va vl vk] 78))
  replace bS5 := bS5.alloc (.cells #[.int .i64 vn, .int .i64 vm, .slice va vl vk] 78)
  replace hA2 := hA2.call ((Below.refl _ _).alloc (Nat.le_refl _) (.cells #[.int .i64 vn, .int .i64 vm, .slice va vl vk] 78))
  rw [← hS6]
  clear hS6
  generalize w7.alloc (.cells #[.int .i64 vn, .int .i64 vm, .slice va vl vk] 78) = W7 at *
  have x0 := bS3.c0
  have x1 := bS3.c1
  have x2 := bS3.c2
  have xl := bS3.lt
  have y0 := bS4.c0
  have y1 := bS4.c1
  have y2 := bS4.c2
  have yl := bS4.lt
  go_wp2_with fail
  ((with_reducible refine (c8 _ _ _ hs1 hs2).mono ?_))
  rintro e w8 ⟨⟨d3, e3, rfl, hA3⟩, hb⟩
  replace hin := hin.call hb
  replace bq := bq.call hb
  replace bS1 := bS1.call hb
  replace bS2 := bS2.call hb
  replace hm1 := hm1.call hb
  replace hm2 := hm2.call hb
  replace bS3 := bS3.call hb
  replace bS4 := bS4.call hb
  replace hs1 := hs1.call hb
  replace hs2 := hs2.call hb
  replace hp := hp.call hb
  replace ht := ht.call hb
  replace hA1 := hA1.call hb
  replace bS5 := bS5.call hb
  replace hA2 := hA2.call hb
  replace bS6 := bS6.call hb
  clear hb c8 x0 x1 x2 xl y0 y1 y2 yl
  obtain ⟨fn, fm, fa, fl, fk, rfl⟩ := hA3.1
  go_upto_region 9 with fail
  obtain ⟨S7, hS7⟩ : ∃ z, z = w8.heap.size := ⟨_, rfl⟩
  have bS7 := Bx.new_at w8 #[.int .i64 fn, .int .i64 fm, .slice fa fl fk] 63 hS7
  replace hin := hin.alloc (.cells #[.int .i64 fn, .int .i64 fm, .slice fa fl fk] 63)
  replace bq := bq.alloc (.cells #[.int .i64 fn, .int .i64 fm, .slice fa fl fk] 63)
  replace bS1 := bS1.alloc (.cells #[.int .i64 fn, .int .i64 fm, .slice fa fl fk] 63)
  replace bS2 := bS2.alloc (.cells #[.int .i64 fn, .int .i64 fm, .slice fa fl fk] 63)
  replace hm1 := hm1.call ((Below.refl _ _).alloc (Nat.le_refl _) (.cells #[.int .i64 fn, .int .i64 fm, .slice fa fl fk] 63))
  replace hm2 := hm2.call ((Below.refl _ _).alloc (Nat.le_refl _) (.cells #[.int .i64 fn, .int .i64 fm, .slice fa fl fk] 63))
  replace bS3 := bS3.alloc (.cells #[.int .i64 fn, .int .i64 fm, .slice fa fl fk] 63)
  replace bS4 := bS4.alloc (.cells #[.int .i64 fn, .int .i64 fm, .slice fa fl fk] 63)
  replace hs1 := hs1.call ((Below.refl _ _).alloc (Nat.le_refl _) (.cells #[.int .i64 fn, .int .i64 fm, .slice fa fl fk] 63))
  replace hs2 := hs2.call ((Below.refl _ _).alloc (Nat.le_refl _) (.cells #[.int .i64 fn, .int .i64 fm, .slice fa fl fk] 63))
  replace hp := hp.call ((Below.refl _ _).alloc (Nat.le_refl _) (.cells #[.int .i64 fn, .int .i64 fm, .slice fa fl fk] 63))
  replace ht := ht.call ((Below.refl _ _).alloc (Nat.le_refl _) (.cells #[.int .i64 fn, .int .i64 fm, .slice fa fl fk] 63))
  replace hA1 := hA1.call ((Below.refl _ _).alloc (Nat.le_refl _) (.cells #[.int .i64 fn, .int .i64 fm, .slice fa fl fk] 63))
  replace bS5 := bS5.alloc (.cells #[.int .i64 fn, .int .i64 fm, .slice fa fl fk] 63)
  replace hA2 := hA2.call ((Below.refl _ _).alloc (Nat.le_refl _) (.cells #[.int .i64 fn, .int .i64 fm, .slice fa fl fk] 63))
  replace bS6 := bS6.alloc (.cells #[.int .i64 fn, .int .i64 fm, .slice fa fl fk] 63)
  replace hA3 := hA3.call ((Below.refl _ _).alloc (Nat.le_refl _) (.cells #[.int .i64 fn, .int .i64 fm, .slice fa fl fk] 63))
  rw [← hS7]
  clear hS7
  generalize w8.alloc (.cells #[.int .i64 fn, .int .i64 fm, .slice fa fl fk] 63) = W8 at *
  have x0 := bS1.c0
  have x1 := bS1.c1
  have x2 := bS1.c2
  have xl := bS1.lt
  have y0 := bS2.c0
  have y1 := bS2.c1
  have y2 := bS2.c2
  have yl := bS2.lt
  go_wp2_with fail
  ((with_reducible refine (c9 _ _ _ hm1 hm2).mono ?_))
  rintro e w9 ⟨⟨d4, e4, rfl, hA4⟩, hb⟩
  replace hin := hin.call hb
  replace bq := bq.call hb
  replace bS1 := bS1.call hb
  replace bS2 := bS2.call hb
  replace hm1 := hm1.call hb
  replace hm2 := hm2.call hb
  replace bS3 := bS3.call hb
  replace bS4 := bS4.call hb
  replace hs1 := hs1.call hb
  replace hs2 := hs2.call hb
  replace hp := hp.call hb
  replace ht := ht.call hb
  replace hA1 := hA1.call hb
  replace bS5 := bS5.call hb
  replace hA2 := hA2.call hb
  replace bS6 := bS6.call hb
  replace hA3 := hA3.call hb
  replace bS7 := bS7.call hb
  clear hb c9 x0 x1 x2 xl y0 y1 y2 yl
  obtain ⟨gn, gm, ga, gl, gk, rfl⟩ := hA4.1
  go_upto_region 10 with fail
  obtain ⟨S8, hS8⟩ : ∃ z, z = w9.heap.size := ⟨_, rfl⟩
  have bS8 := Bx.new_at w9 #[.int .i64 gn, .int .i64 gm, .slice ga gl gk] 78 hS8
  replace hin := hin.alloc (.cells #[.int .i64 gn, .int .i64 gm, .slice ga gl gk] 78)
  replace bq := bq.alloc (.cells #[.int .i64 gn, .int .i64 gm, .slice ga gl gk] 78)
  replace bS1 := bS1.alloc (.cells #[.int .i64 gn, .int .i64 gm, .slice ga gl gk] 78)
  replace bS2 := bS2.alloc (.cells #[.int .i64 gn, .int .i64 gm, .slice ga gl gk] 78)
  replace hm1 := hm1.call ((Below.refl _ _).alloc (Nat.le_refl _) (.cells #[.int .i64 gn, .int .i64 gm, .slice ga gl gk] 78))
  replace hm2 := hm2.call ((Below.refl _ _).alloc (Nat.le_refl _) (.cells #[.int .i64 gn, .int .i64 gm, .slice ga gl gk] 78))
  replace bS3 := bS3.alloc (.cells #[.int .i64 gn, .int .i64 gm, .slice ga gl gk] 78)
  replace bS4 := bS4.alloc (.cells #[.int .i64 gn, .int .i64 gm, .slice ga gl gk] 78)
  replace hs1 := hs1.call ((Below.refl _ _).alloc (Nat.le_refl _) (.cells #[.int .i64 gn, .int .i64 gm, .slice ga gl gk] 78))
  replace hs2 := hs2.call ((Below.refl _ _).alloc (Nat.le_refl _) (.cells #[.int .i64 gn, .int .i64 gm, .slice ga gl gk] 78))
  replace hp := hp.call ((Below.refl _ _).alloc (Nat.le_refl _) (.cells #[.int .i64 gn, .int .i64 gm, .slice ga gl gk] 78))
  replace ht := ht.call ((Below.refl _ _).alloc (Nat.le_refl _) (.cells #[.int .i64 gn, .int .i64 gm, .slice ga gl gk] 78))
  replace hA1 := hA1.call ((Below.refl _ _).alloc (Nat.le_refl _) (.cells #[.int .i64 gn, .int .i64 gm, .slice ga gl gk] 78))
  replace bS5 := bS5.alloc (.cells #[.int .i64 gn, .int .i64 gm, .slice ga gl gk] 78)
  replace hA2 := hA2.call ((Below.refl _ _).alloc (Nat.le_refl _) (.cells #[.int .i64 gn, .int .i64 gm, .slice ga gl gk] 78))
  replace bS6 := bS6.alloc (.cells #[.int .i64 gn, .int .i64 gm, .slice ga gl gk] 78)
  replace hA3 := hA3.call ((Below.refl _ _).alloc (Nat.le_refl _) (.cells #[.int .i64 gn, .int .i64 gm, .slice ga gl gk] 78))
  replace bS7 := bS7.alloc (.cells #[.int .i64 gn, .int .i64 gm, .slice ga gl gk] 78)
  replace hA4 := hA4.call ((Below.refl _ _).alloc (Nat.le_refl _) (.cells #[.int .i64 gn, .int .i64 gm, .slice ga gl gk] 78))
  rw [← hS8]
  clear hS8
  generalize w9.alloc (.cells #[.int .i64 gn, .int .i64 gm, .slice ga gl gk] 78) = W9 at *
  clear hm2 hs2 bS2 bS4
  have x0 := bS3.c0
  have x1 := bS3.c1
  have x2 := bS3.c2
  have xl := bS3.lt
  have y0 := bS1.c0
  have y1 := bS1.c1
  have y2 := bS1.c2
  have yl := bS1.lt
  have z0 := bS5.c0
  have z1 := bS5.c1
  have z2 := bS5.c2
  have zl := bS5.lt
  have p0 := bS6.c0
  have p1 := bS6.c1
  have p2 := bS6.c2
  have pl := bS6.lt
  have q0 := bS7.c0
  have q1 := bS7.c1
  have q2 := bS7.c2
  have ql := bS7.lt
  have s0 := bS8.c0
  have s1 := bS8.c1
  have s2 := bS8.c2
  have sl := bS8.lt
  go_wp2_with fail
  ((with_reducible refine (c10 _ _ _ hs1 hm1).mono ?_))
  rintro e w10 ⟨rfl, hb⟩
  replace hin := hin.call hb
  replace bq := bq.call hb
  replace bS1 := bS1.call hb
  replace hm1 := hm1.call hb
  replace bS3 := bS3.call hb
  replace hs1 := hs1.call hb
  replace hp := hp.call hb
  replace ht := ht.call hb
  replace hA1 := hA1.call hb
  replace bS5 := bS5.call hb
  replace hA2 := hA2.call hb
  replace bS6 := bS6.call hb
  replace hA3 := hA3.call hb
  replace bS7 := bS7.call hb
  replace hA4 := hA4.call hb
  replace bS8 := bS8.call hb
  clear hb c10 x0 x1 x2 xl y0 y1 y2 yl z0 z1 z2 zl p0 p1 p2 pl q0 q1 q2 ql s0 s1 s2 sl
  have z0 := bS5.c0
  have z1 := bS5.c1
  have z2 := bS5.c2
  have zl := bS5.lt
  have p0 := bS6.c0
  have p1 := bS6.c1
  have p2 := bS6.c2
  have pl := bS6.lt
  go_wp2_with fail
  ((with_reducible refine (c11 _ _ _ _ _ hA1 hA2).mono ?_))
  rintro e w11 ⟨rfl, hb⟩
  replace hin := hin.call hb
  replace bq := bq.call hb
  replace bS1 := bS1.call hb
  replace hm1 := hm1.call hb
  replace bS3 := bS3.call hb
  replace hs1 := hs1.call hb
  replace hp := hp.call hb
  replace ht := ht.call hb
  replace hA1 := hA1.call hb
  replace bS5 := bS5.call hb
  replace hA2 := hA2.call hb
  replace bS6 := bS6.call hb
  replace hA3 := hA3.call hb
  replace bS7 := bS7.call hb
  replace hA4 := hA4.call hb
  replace bS8 := bS8.call hb
  clear hb c11 z0 z1 z2 zl p0 p1 p2 pl
  have q0 := bS7.c0
  have q1 := bS7.c1
  have q2 := bS7.c2
  have ql := bS7.lt
  have s0 := bS8.c0
  have s1 := bS8.c1
  have s2 := bS8.c2
  have sl := bS8.lt
  go_wp2_with fail
  ((with_reducible refine (c11' _ _ _ _ _ hA3 hA4).mono ?_))
  rintro e w12 ⟨rfl, hb⟩
  replace hin := hin.call hb
  replace bq := bq.call hb
  replace bS1 := bS1.call hb
  replace hm1 := hm1.call hb
  replace bS3 := bS3.call hb
  replace hs1 := hs1.call hb
  replace hp := hp.call hb
  replace ht := ht.call hb
  replace hA1 := hA1.call hb
  replace bS5 := bS5.call hb
  replace hA2 := hA2.call hb
  replace bS6 := bS6.call hb
  replace hA3 := hA3.call hb
  replace bS7 := bS7.call hb
  replace hA4 := hA4.call hb
  replace bS8 := bS8.call hb
  clear hb c11' q0 q1 q2 ql s0 s1 s2 sl hA1 hA2 hA3 hA4 bS5 bS6 bS7 bS8
  have x0 := bS3.c0
  have x1 := bS3.c1
  have x2 := bS3.c2
  have xl := bS3.lt
  go_wp2_with fail
  ((with_reducible refine (c12 _ _ hs1).mono ?_))
  rintro e w13 ⟨v12, rfl, hT1, hb⟩
  replace hin := hin.call hb
  replace bq := bq.call hb
  replace bS1 := bS1.call hb
  replace hm1 := hm1.call hb
  replace bS3 := bS3.call hb
  replace hs1 := hs1.call hb
  replace hp := hp.call hb
  replace ht := ht.call hb
  clear hb c12 x0 x1 x2 xl
  replace hT1 := hT1.m
  obtain ⟨tua, tuk, rfl⟩ := hT1.shape
  go_upto_region 13 with fail
  obtain ⟨S9, hS9⟩ : ∃ z, z = w13.heap.size := ⟨_, rfl⟩
  have bS9 := Bx.new_at w13 #[.int .i64 c, .int .i64 r, .slice tua c tuk] 63 hS9
  replace hin := hin.alloc (.cells #[.int .i64 c, .int .i64 r, .slice tua c tuk] 63)
  replace bq := bq.alloc (.cells #[.int .i64 c, .int .i64 r, .slice tua c tuk] 63)
  replace bS1 := bS1.alloc (.cells #[.int .i64 c, .int .i64 r, .slice tua c tuk] 63)
  replace hm1 := hm1.call ((Below.refl _ _).alloc (Nat.le_refl _) (.cells #[.int .i64 c, .int .i64 r, .slice tua c tuk] 63))
  replace bS3 := bS3.alloc (.cells #[.int .i64 c, .int .i64 r, .slice tua c tuk] 63)
  replace hs1 := hs1.call ((Below.refl _ _).alloc (Nat.le_refl _) (.cells #[.int .i64 c, .int .i64 r, .slice tua c tuk] 63))
  replace hp := hp.call ((Below.refl _ _).alloc (Nat.le_refl _) (.cells #[.int .i64 c, .int .i64 r, .slice tua c tuk] 63))
  replace ht := ht.call ((Below.refl _ _).alloc (Nat.le_refl _) (.cells #[.int .i64 c, .int .i64 r, .slice tua c tuk] 63))
  replace hT1 := hT1.call ((Below.refl _ _).alloc (Nat.le_refl _) (.cells #[.int .i64 c, .int .i64 r, .slice tua c tuk] 63))
  rw [← hS9]
  clear hS9
  generalize w13.alloc (.cells #[.int .i64 c, .int .i64 r, .slice tua c tuk] 63) = W13 at *
  have x0 := bS1.c0
  have x1 := bS1.c1
  have x2 := bS1.c2
  have xl := bS1.lt
  go_wp2_with fail
  ((with_reducible refine (c13 _ _ hm1).mono ?_))
  rintro e w14 ⟨⟨d5, e5, rfl, hT2⟩, hb⟩
  replace hin := hin.call hb
  replace bq := bq.call hb
  replace bS1 := bS1.call hb
  replace hm1 := hm1.call hb
  replace bS3 := bS3.call hb
  replace hs1 := hs1.call hb
  replace hp := hp.call hb
  replace ht := ht.call hb
  replace hT1 := hT1.call hb
  replace bS9 := bS9.call hb
  clear hb c13 x0 x1 x2 xl
  obtain ⟨on, om, oa, ol, ok, rfl⟩ := hT2.1
  go_upto_region 14 with fail
  obtain ⟨S10, hS10⟩ : ∃ z, z = w14.heap.size := ⟨_, rfl⟩
  have bS10 := Bx.new_at w14 #[.int .i64 on, .int .i64 om, .slice oa ol ok] 78 hS10
  replace hin := hin.alloc (.cells #[.int .i64 on, .int .i64 om, .slice oa ol ok] 78)
  replace bq := bq.alloc (.cells #[.int .i64 on, .int .i64 om, .slice oa ol ok] 78)
  replace bS1 := bS1.alloc (.cells #[.int .i64 on, .int .i64 om, .slice oa ol ok] 78)
  replace hm1 := hm1.call ((Below.refl _ _).alloc (Nat.le_refl _) (.cells #[.int .i64 on, .int .i64 om, .slice oa ol ok] 78))
  replace bS3 := bS3.alloc (.cells #[.int .i64 on, .int .i64 om, .slice oa ol ok] 78)
  replace hs1 := hs1.call ((Below.refl _ _).alloc (Nat.le_refl _) (.cells #[.int .i64 on, .int .i64 om, .slice oa ol ok] 78))
  replace hp := hp.call ((Below.refl _ _).alloc (Nat.le_refl _) (.cells #[.int .i64 on, .int .i64 om, .slice oa ol ok] 78))
  replace ht := ht.call ((Below.refl _ _).alloc (Nat.le_refl _) (.cells #[.int .i64 on, .int .i64 om, .slice oa ol ok] 78))
  replace hT1 := hT1.call ((Below.refl _ _).alloc (Nat.le_refl _) (.cells #[.int .i64 on, .int .i64 om, .slice oa ol ok] 78))
  replace bS9 := bS9.alloc (.cells #[.int .i64 on, .int .i64 om, .slice oa ol ok] 78)
  replace hT2 := hT2.call ((Below.refl _ _).alloc (Nat.le_refl _) (.cells #[.int .i64 on, .int .i64 om, .slice oa ol ok] 78))
  rw [← hS10]
  clear hS10
  generalize w14.alloc (.cells #[.int .i64 on, .int .i64 om, .slice oa ol ok] 78) = W14 at *
  have z0 := bq.c0
  have z1 := bq.c1
  have zl := bq.lt
  have x0 := bS3.c0
  have x1 := bS3.c1
  have x2 := bS3.c2
  have xl := bS3.lt
  have h := In.self W14
  have hc := h.cell
  refine wp_region_flow 8 (by kernel_rfl) (by kernel_rfl) (fun _ _ d _ _ h => by cases d <;> exact h) ?_; simp only [List.take_succ_cons, List.take_zero, List.drop_succ_cons, List.drop_zero]; simp only [putAll, Act.put, List.setIfInBounds_toArray, List.set]; (try simp only [Nat.reduceAdd]); (try simp only [Nat.zero_add]); (repeat (first | ((with_reducible refine flow_float (v := ?_) ?_ ?_ ?_); rotate_left 1; (focus (with_reducible rfl)); (focus (intro u w1 hw hd w2; (try simp only [depH] at hd); (try simp only [ext] at hd); (try simp only [extU] at hd); (try simp only [Nat.reduceAdd] at hd); (try simp only [Nat.reduceEqDiff] at hd); (try simp only [reduceIte] at hd); (try simp only [if_true] at hd); (try simp only [if_false] at hd); (try simp only [and_true] at hd); (try simp only [true_and] at hd); go_simp; exact rfl))) | ((with_reducible refine flow_pure0 (v := ?_) ?_ ?_ ?_ ?_); rotate_left 1; (focus (with_reducible rfl)); (focus rfl); (focus (intro u w1 hw hd; (try simp only [depH] at hd); (try simp only [ext] at hd); (try simp only [extU] at hd); (try simp only [Nat.reduceAdd] at hd); (try simp only [Nat.reduceEqDiff] at hd); (try simp only [reduceIte] at hd); (try simp only [if_true] at hd); (try simp only [if_false] at hd); (try simp only [and_true] at hd); (try simp only [true_and] at hd); have hc' := hw.cell; go_simp; exact rfl))) | ((with_reducible refine flow_skipg (j := ?_) (b := ?_) ?_ ?_ ?_); rotate_left 2; (focus (with_reducible rfl)); (focus (intro u w1 hw hd; (try simp only [depH] at hd); (try simp only [ext] at hd); (try simp only [extU] at hd); (try simp only [Nat.reduceAdd] at hd); (try simp only [Nat.reduceEqDiff] at hd); (try simp only [reduceIte] at hd); (try simp only [if_true] at hd); (try simp only [if_false] at hd); (try simp only [and_true] at hd); (try simp only [true_and] at hd); simp [yielded, hd]; done))) | ((with_reducible refine flow_pureg (v := ?_) (j := ?_) (b := ?_) ?_ ?_ ?_ ?_); rotate_left 3; (focus (with_reducible rfl)); (focus (intro u w1 hw hd; (try simp only [depH] at hd); (try simp only [ext] at hd); (try simp only [extU] at hd); (try simp only [Nat.reduceAdd] at hd); (try simp only [Nat.reduceEqDiff] at hd); (try simp only [reduceIte] at hd); (try simp only [if_true] at hd); (try simp only [if_false] at hd); (try simp only [and_true] at hd); (try simp only [true_and] at hd); simp [yielded, hd]; done)); (focus (intro u w1 hw hd; (try simp only [depH] at hd); (try simp only [ext] at hd); (try simp only [extU] at hd); (try simp only [Nat.reduceAdd] at hd); (try simp only [Nat.reduceEqDiff] at hd); (try simp only [reduceIte] at hd); (try simp only [if_true] at hd); (try simp only [if_false] at hd); (try simp only [and_true] at hd); (try simp only [true_and] at hd); have hc' := hw.cell; go_simp; exact rfl))) | ((with_reducible refine flow_alloc (t := ?_) (zs := ?_) ?_ ?_ ?_ ?_); rotate_left 2; (focus (with_reducible rfl)); (focus rfl); (focus (intro u w1; go_simp; exact rfl))) | ((with_reducible refine flow_pure0 (v := ?_) ?_ ?_ ?_ ?_); rotate_left 1; (focus (with_reducible rfl)); (focus rfl); (focus (intro u w1 hw hd; (try simp only [depH] at hd); (try simp only [ext] at hd); (try simp only [extU] at hd); (try simp only [Nat.reduceAdd] at hd); (try simp only [Nat.reduceEqDiff] at hd); (try simp only [reduceIte] at hd); (try simp only [if_true] at hd); (try simp only [if_false] at hd); (try simp only [and_true] at hd); (try simp only [true_and] at hd); have hc' := hw.cell; go_simp; go_at_call 16; ((with_reducible refine (cq _).mono ?_)); rintro e w'' ⟨rfl, hb⟩; refine ⟨?_, hb⟩; exact rfl))) | ((with_reducible refine flow_pureg (v := ?_) (j := ?_) (b := ?_) ?_ ?_ ?_ ?_); rotate_left 3; (focus (with_reducible rfl)); (focus (intro u w1 hw hd; (try simp only [depH] at hd); (try simp only [ext] at hd); (try simp only [extU] at hd); (try simp only [Nat.reduceAdd] at hd); (try simp only [Nat.reduceEqDiff] at hd); (try simp only [reduceIte] at hd); (try simp only [if_true] at hd); (try simp only [if_false] at hd); (try simp only [and_true] at hd); (try simp only [true_and] at hd); simp [yielded, hd]; done)); (focus (intro u w1 hw hd; (try simp only [depH] at hd); (try simp only [ext] at hd); (try simp only [extU] at hd); (try simp only [Nat.reduceAdd] at hd); (try simp only [Nat.reduceEqDiff] at hd); (try simp only [reduceIte] at hd); (try simp only [if_true] at hd); (try simp only [if_false] at hd); (try simp only [and_true] at hd); (try simp only [true_and] at hd); have hc' := hw.cell; go_simp; go_at_call 16; ((with_reducible refine (cq _).mono ?_)); rintro e w'' ⟨rfl, hb⟩; refine ⟨?_, hb⟩; exact rfl)))))
  (with_reducible refine flow_rel (Vi := TupR (ScQ W14.heap.size r c fun i k => cc * mvals c xs i k)) false ?_ ?_ ?_ ?_ ?_ ?_); (focus rfl); (focus rfl); (focus exact stable_scq _ _ _ _); (focus exact placed_false _); (focus (intro u w1 hw hd; (try simp only [depH] at hd); (try simp only [ext] at hd); (try simp only [extU] at hd); (try simp only [Nat.reduceAdd] at hd); (try simp only [Nat.reduceEqDiff] at hd); (try simp only [reduceIte] at hd); (try simp only [if_true] at hd); (try simp only [if_false] at hd); (try simp only [and_true] at hd); (try simp only [true_and] at hd); have hc' := hw.cell; go_simp; (try simp only [okUpon]); go_at_call 50; ((with_reducible refine (c14 _ _ _ hw.ins.siz (hs1.call hw.ins.bel)).mono ?_)); rintro e w'' ⟨⟨v, rfl, hv⟩, hb⟩; exact ⟨v, rfl, ⟨hv, fun h => by cases h⟩, hb⟩))
  (((with_reducible refine flow_link (k := 3) (R := MvR) ?_ ?_ ?_ ?_); (focus rfl); (focus rfl); (focus (intro u w1 hw hd; (try simp only [depH] at hd); (try simp only [ext] at hd); (try simp only [extU] at hd); (try simp only [Nat.reduceAdd] at hd); (try simp only [Nat.reduceEqDiff] at hd); (try simp only [reduceIte] at hd); (try simp only [if_true] at hd); (try simp only [if_false] at hd); (try simp only [and_true] at hd); (try simp only [true_and] at hd); obtain ⟨⟨n, m, a, l, k, e, h3⟩, _⟩ := hd; exact ⟨u 3, fun w2 => (by go_simp), rfl, n, m, a, l, k, e, h3⟩))); ((with_reducible refine flow_link (k := 4) (R := FstR) ?_ ?_ ?_ ?_); (focus rfl); (focus rfl); (focus (intro u w1 hw hd; (try simp only [depH] at hd); (try simp only [ext] at hd); (try simp only [extU] at hd); (try simp only [Nat.reduceAdd] at hd); (try simp only [Nat.reduceEqDiff] at hd); (try simp only [reduceIte] at hd); (try simp only [if_true] at hd); (try simp only [if_false] at hd); (try simp only [and_true] at hd); (try simp only [true_and] at hd); obtain ⟨h4, n, m, a, l, k, e, h5⟩ := hd; exact ⟨.agg #[.int .i64 n, .int .i64 m, .slice a l k], fun w2 => (by clear h4; go_simp), n, m, a, l, k, e, h5, rfl⟩))); ((with_reducible refine flow_link (k := 4) (R := SndR) ?_ ?_ ?_ ?_); (focus rfl); (focus rfl); (focus (intro u w1 hw hd; (try simp only [depH] at hd); (try simp only [ext] at hd); (try simp only [extU] at hd); (try simp only [Nat.reduceAdd] at hd); (try simp only [Nat.reduceEqDiff] at hd); (try simp only [reduceIte] at hd); (try simp only [if_true] at hd); (try simp only [if_false] at hd); (try simp only [and_true] at hd); (try simp only [true_and] at hd); obtain ⟨h4, n, m, a, l, k, e, h5⟩ := hd; exact ⟨.int .i64 e, fun w2 => (by clear h4; go_simp), n, m, a, l, k, e, h5, rfl⟩))))
  (repeat (first | ((with_reducible refine flow_float (v := ?_) ?_ ?_ ?_); rotate_left 1; (focus (with_reducible rfl)); (focus (intro u w1 hw hd w2; (try simp only [depH] at hd); (try simp only [ext] at hd); (try simp only [extU] at hd); (try simp only [Nat.reduceAdd] at hd); (try simp only [Nat.reduceEqDiff] at hd); (try simp only [reduceIte] at hd); (try simp only [if_true] at hd); (try simp only [if_false] at hd); (try simp only [and_true] at hd); (try simp only [true_and] at hd); go_simp; exact rfl))) | ((with_reducible refine flow_pure0 (v := ?_) ?_ ?_ ?_ ?_); rotate_left 1; (focus (with_reducible rfl)); (focus rfl); (focus (intro u w1 hw hd; (try simp only [depH] at hd); (try simp only [ext] at hd); (try simp only [extU] at hd); (try simp only [Nat.reduceAdd] at hd); (try simp only [Nat.reduceEqDiff] at hd); (try simp only [reduceIte] at hd); (try simp only [if_true] at hd); (try simp only [if_false] at hd); (try simp only [and_true] at hd); (try simp only [true_and] at hd); have hc' := hw.cell; go_simp; exact rfl))) | ((with_reducible refine flow_skipg (j := ?_) (b := ?_) ?_ ?_ ?_); rotate_left 2; (focus (with_reducible rfl)); (focus (intro u w1 hw hd; (try simp only [depH] at hd); (try simp only [ext] at hd); (try simp only [extU] at hd); (try simp only [Nat.reduceAdd] at hd); (try simp only [Nat.reduceEqDiff] at hd); (try simp only [reduceIte] at hd); (try simp only [if_true] at hd); (try simp only [if_false] at hd); (try simp only [and_true] at hd); (try simp only [true_and] at hd); simp [yielded, hd]; done))) | ((with_reducible refine flow_pureg (v := ?_) (j := ?_) (b := ?_) ?_ ?_ ?_ ?_); rotate_left 3; (focus (with_reducible rfl)); (focus (intro u w1 hw hd; (try simp only [depH] at hd); (try simp only [ext] at hd); (try simp only [extU] at hd); (try simp only [Nat.reduceAdd] at hd); (try simp only [Nat.reduceEqDiff] at hd); (try simp only [reduceIte] at hd); (try simp only [if_true] at hd); (try simp only [if_false] at hd); (try simp only [and_true] at hd); (try simp only [true_and] at hd); simp [yielded, hd]; done)); (focus (intro u w1 hw hd; (try simp only [depH] at hd); (try simp only [ext] at hd); (try simp only [extU] at hd); (try simp only [Nat.reduceAdd] at hd); (try simp only [Nat.reduceEqDiff] at hd); (try simp only [reduceIte] at hd); (try simp only [if_true] at hd); (try simp only [if_false] at hd); (try simp only [and_true] at hd); (try simp only [true_and] at hd); have hc' := hw.cell; go_simp; exact rfl))) | ((with_reducible refine flow_alloc (t := ?_) (zs := ?_) ?_ ?_ ?_ ?_); rotate_left 2; (focus (with_reducible rfl)); (focus rfl); (focus (intro u w1; go_simp; exact rfl)))))
  (try clear hc hf h); intro u w' h ha hdi; replace h := h.ins; (try simp only [World.size_alloc] at h); (try dsimp only at ha); (repeat rw [World.size_alloc] at ha); (try simp only [allH] at ha); (try simp only [ext] at ha); (try simp only [extU] at ha); (try simp only [Nat.reduceAdd] at ha); (try simp only [Nat.reduceEqDiff] at ha); (try simp only [reduceIte] at ha); (try simp only [if_true] at ha); (try simp only [if_false] at ha); (try simp only [and_true] at ha); (try simp only [true_and] at ha); have hc := h.cell; have hf := h.frozen
  obtain ⟨⟨⟨⟨⟨⟨⟨ha, ha1⟩, ha2⟩, h3⟩, h4⟩, h5⟩, h6⟩, S11, hu7, hS, bS11⟩ := ha
  obtain ⟨jn, jm, ja, jl, jk, je, hu3, hu4, hu5, hu6, hQ⟩ := tup_out h3 h4 h5 h6
  clear h3 h4 h5 h6
  obtain ⟨rfl, hQ⟩ := hQ
  (try dsimp only)
  simp only [hu3, hu4, hu5, hu6, hu7]
  clear ha ha1 ha2 hdi hu3 hu4 hu5 hu6 hu7
  have p0 := bS11.c0
  have pf0 := bS11.frozen 0
  have p1 := bS11.c1
  have pf1 := bS11.frozen 1
  have p2 := bS11.c2
  have pf2 := bS11.frozen 2
  have pl := bS11.lt
  have KS := Lib.hid (((bS11.set 0 (.int .i64 jn)).set 1 (.int .i64 jm)).set 2 (.slice ja jl jk))
  have KH := Lib.hid (((h.setCell (p := ⟨S11, 0, none⟩) (by simp; omega) (.int .i64 jn)).setCell (p := ⟨S11, 1, none⟩) (by simp; omega) (.int .i64 jm)).setCell (p := ⟨S11, 2, none⟩) (by simp; omega) (.slice ja jl jk))
  have KQ := Lib.hid ((hQ.put3 (x := .int .i64 jn) (y := .int .i64 jm) (z := .slice ja jl jk) bS11).m)
  clear hc hf h hS hQ bS11 z0 z1 zl x0 x1 x2 xl c14
  go_upto_region 15 with fail
  have hb := KH.out.bel
  have bS11 := KS.out
  have hC1 := KQ.out
  simp only [List.set] at bS11
  replace hin := hin.call hb
  replace bq := bq.call hb
  replace bS1 := bS1.call hb
  replace hm1 := hm1.call hb
  replace bS3 := bS3.call hb
  replace hs1 := hs1.call hb
  replace hp := hp.call hb
  replace ht := ht.call hb
  replace hT1 := hT1.call hb
  replace bS9 := bS9.call hb
  replace hT2 := hT2.call hb
  replace bS10 := bS10.call hb
  clear KS KH KQ hb p0 p1 p2 pf0 pf1 pf2 pl
  generalize ((w'.setCell ⟨S11, 0, none⟩ (.int .i64 jn)).setCell ⟨S11, 1, none⟩ (.int .i64 jm)).setCell ⟨S11, 2, none⟩ (.slice ja jl jk) = W15 at *
  have z0 := bq.c0
  have z1 := bq.c1
  have zl := bq.lt
  have x0 := bS1.c0
  have x1 := bS1.c1
  have x2 := bS1.c2
  have xl := bS1.lt
  have h := In.self W15
  have hc := h.cell
  refine wp_region_flow 8 (by kernel_rfl) (by kernel_rfl) (fun _ _ d _ _ h => by cases d <;> exact h) ?_; simp only [List.take_succ_cons, List.take_zero, List.drop_succ_cons, List.drop_zero]; simp only [putAll, Act.put, List.setIfInBounds_toArray, List.set]; (try simp only [Nat.reduceAdd]); (try simp only [Nat.zero_add]); (repeat (first | ((with_reducible refine flow_float (v := ?_) ?_ ?_ ?_); rotate_left 1; (focus (with_reducible rfl)); (focus (intro u w1 hw hd w2; (try simp only [depH] at hd); (try simp only [ext] at hd); (try simp only [extU] at hd); (try simp only [Nat.reduceAdd] at hd); (try simp only [Nat.reduceEqDiff] at hd); (try simp only [reduceIte] at hd); (try simp only [if_true] at hd); (try simp only [if_false] at hd); (try simp only [and_true] at hd); (try simp only [true_and] at hd); go_simp; exact rfl))) | ((with_reducible refine flow_pure0 (v := ?_) ?_ ?_ ?_ ?_); rotate_left 1; (focus (with_reducible rfl)); (focus rfl); (focus (intro u w1 hw hd; (try simp only [depH] at hd); (try simp only [ext] at hd); (try simp only [extU] at hd); (try simp only [Nat.reduceAdd] at hd); (try simp only [Nat.reduceEqDiff] at hd); (try simp only [reduceIte] at hd); (try simp only [if_true] at hd); (try simp only [if_false] at hd); (try simp only [and_true] at hd); (try simp only [true_and] at hd); have hc' := hw.cell; go_simp; exact rfl))) | ((with_reducible refine flow_skipg (j := ?_) (b := ?_) ?_ ?_ ?_); rotate_left 2; (focus (with_reducible rfl)); (focus (intro u w1 hw hd; (try simp only [depH] at hd); (try simp only [ext] at hd); (try simp only [extU] at hd); (try simp only [Nat.reduceAdd] at hd); (try simp only [Nat.reduceEqDiff] at hd); (try simp only [reduceIte] at hd); (try simp only [if_true] at hd); (try simp only [if_false] at hd); (try simp only [and_true] at hd); (try simp only [true_and] at hd); simp [yielded, hd]; done))) | ((with_reducible refine flow_pureg (v := ?_) (j := ?_) (b := ?_) ?_ ?_ ?_ ?_); rotate_left 3; (focus (with_reducible rfl)); (focus (intro u w1 hw hd; (try simp only [depH] at hd); (try simp only [ext] at hd); (try simp only [extU] at hd); (try simp only [Nat.reduceAdd] at hd); (try simp only [Nat.reduceEqDiff] at hd); (try simp only [reduceIte] at hd); (try simp only [if_true] at hd); (try simp only [if_false] at hd); (try simp only [and_true] at hd); (try simp only [true_and] at hd); simp [yielded, hd]; done)); (focus (intro u w1 hw hd; (try simp only [depH] at hd); (try simp only [ext] at hd); (try simp only [extU] at hd); (try simp only [Nat.reduceAdd] at hd); (try simp only [Nat.reduceEqDiff] at hd); (try simp only [reduceIte] at hd); (try simp only [if_true] at hd); (try simp only [if_false] at hd); (try simp only [and_true] at hd); (try simp only [true_and] at hd); have hc' := hw.cell; go_simp; exact rfl))) | ((with_reducible refine flow_alloc (t := ?_) (zs := ?_) ?_ ?_ ?_ ?_); rotate_left 2; (focus (with_reducible rfl)); (focus rfl); (focus (intro u w1; go_simp; exact rfl))) | ((with_reducible refine flow_pure0 (v := ?_) ?_ ?_ ?_ ?_); rotate_left 1; (focus (with_reducible rfl)); (focus rfl); (focus (intro u w1 hw hd; (try simp only [depH] at hd); (try simp only [ext] at hd); (try simp only [extU] at hd); (try simp only [Nat.reduceAdd] at hd); (try simp only [Nat.reduceEqDiff] at hd); (try simp only [reduceIte] at hd); (try simp only [if_true] at hd); (try simp only [if_false] at hd); (try simp only [and_true] at hd); (try simp only [true_and] at hd); have hc' := hw.cell; go_simp; go_at_call 16; ((with_reducible refine (cq _).mono ?_)); rintro e w'' ⟨rfl, hb⟩; refine ⟨?_, hb⟩; exact rfl))) | ((with_reducible refine flow_pureg (v := ?_) (j := ?_) (b := ?_) ?_ ?_ ?_ ?_); rotate_left 3; (focus (with_reducible rfl)); (focus (intro u w1 hw hd; (try simp only [depH] at hd); (try simp only [ext] at hd); (try simp only [extU] at hd); (try simp only [Nat.reduceAdd] at hd); (try simp only [Nat.reduceEqDiff] at hd); (try simp only [reduceIte] at hd); (try simp only [if_true] at hd); (try simp only [if_false] at hd); (try simp only [and_true] at hd); (try simp only [true_and] at hd); simp [yielded, hd]; done)); (focus (intro u w1 hw hd; (try simp only [depH] at hd); (try simp only [ext] at hd); (try simp only [extU] at hd); (try simp only [Nat.reduceAdd] at hd); (try simp only [Nat.reduceEqDiff] at hd); (try simp only [reduceIte] at hd); (try simp only [if_true] at hd); (try simp only [if_false] at hd); (try simp only [and_true] at hd); (try simp only [true_and] at hd); have hc' := hw.cell; go_simp; go_at_call 16; ((with_reducible refine (cq _).mono ?_)); rintro e w'' ⟨rfl, hb⟩; refine ⟨?_, hb⟩; exact rfl)))))
  (with_reducible refine flow_rel (Vi := TupR (DrQ r c fun i k => cc * mvals c xs i k)) false ?_ ?_ ?_ ?_ ?_ ?_); (focus rfl); (focus rfl); (focus exact stable_drq _ _ _); (focus exact placed_false _); (focus (intro u w1 hw hd; (try simp only [depH] at hd); (try simp only [ext] at hd); (try simp only [extU] at hd); (try simp only [Nat.reduceAdd] at hd); (try simp only [Nat.reduceEqDiff] at hd); (try simp only [reduceIte] at hd); (try simp only [if_true] at hd); (try simp only [if_false] at hd); (try simp only [and_true] at hd); (try simp only [true_and] at hd); have hc' := hw.cell; go_simp; (try simp only [okUpon]); go_at_call 51; ((with_reducible refine (c15 _ _ (hm1.call hw.ins.bel)).mono ?_)); rintro e w'' ⟨⟨v, rfl, hv⟩, hb⟩; exact ⟨v, rfl, ⟨hv, fun h => by cases h⟩, hb⟩))
  (((with_reducible refine flow_link (k := 3) (R := MvR) ?_ ?_ ?_ ?_); (focus rfl); (focus rfl); (focus (intro u w1 hw hd; (try simp only [depH] at hd); (try simp only [ext] at hd); (try simp only [extU] at hd); (try simp only [Nat.reduceAdd] at hd); (try simp only [Nat.reduceEqDiff] at hd); (try simp only [reduceIte] at hd); (try simp only [if_true] at hd); (try simp only [if_false] at hd); (try simp only [and_true] at hd); (try simp only [true_and] at hd); obtain ⟨⟨n, m, a, l, k, e, h3⟩, _⟩ := hd; exact ⟨u 3, fun w2 => (by go_simp), rfl, n, m, a, l, k, e, h3⟩))); ((with_reducible refine flow_link (k := 4) (R := FstR) ?_ ?_ ?_ ?_); (focus rfl); (focus rfl); (focus (intro u w1 hw hd; (try simp only [depH] at hd); (try simp only [ext] at hd); (try simp only [extU] at hd); (try simp only [Nat.reduceAdd] at hd); (try simp only [Nat.reduceEqDiff] at hd); (try simp only [reduceIte] at hd); (try simp only [if_true] at hd); (try simp only [if_false] at hd); (try simp only [and_true] at hd); (try simp only [true_and] at hd); obtain ⟨h4, n, m, a, l, k, e, h5⟩ := hd; exact ⟨.agg #[.int .i64 n, .int .i64 m, .slice a l k], fun w2 => (by clear h4; go_simp), n, m, a, l, k, e, h5, rfl⟩))); ((with_reducible refine flow_link (k := 4) (R := SndR) ?_ ?_ ?_ ?_); (focus rfl); (focus rfl); (focus (intro u w1 hw hd; (try simp only [depH] at hd); (try simp only [ext] at hd); (try simp only [extU] at hd); (try simp only [Nat.reduceAdd] at hd); (try simp only [Nat.reduceEqDiff] at hd); (try simp only [reduceIte] at hd); (try simp only [if_true] at hd); (try simp only [if_false] at hd); (try simp only [and_true] at hd); (try simp only [true_and] at hd); obtain ⟨h4, n, m, a, l, k, e, h5⟩ := hd; exact ⟨.int .i64 e, fun w2 => (by clear h4; go_simp), n, m, a, l, k, e, h5, rfl⟩))))
  (repeat (first | ((with_reducible refine flow_float (v := ?_) ?_ ?_ ?_); rotate_left 1; (focus (with_reducible rfl)); (focus (intro u w1 hw hd w2; (try simp only [depH] at hd); (try simp only [ext] at hd); (try simp only [extU] at hd); (try simp only [Nat.reduceAdd] at hd); (try simp only [Nat.reduceEqDiff] at hd); (try simp only [reduceIte] at hd); (try simp only [if_true] at hd); (try simp only [if_false] at hd); (try simp only [and_true] at hd); (try simp only [true_and] at hd); go_simp; exact rfl))) | ((with_reducible refine flow_pure0 (v := ?_) ?_ ?_ ?_ ?_); rotate_left 1; (focus (with_reducible rfl)); (focus rfl); (focus (intro u w1 hw hd; (try simp only [depH] at hd); (try simp only [ext] at hd); (try simp only [extU] at hd); (try simp only [Nat.reduceAdd] at hd); (try simp only [Nat.reduceEqDiff] at hd); (try simp only [reduceIte] at hd); (try simp only [if_true] at hd); (try simp only [if_false] at hd); (try simp only [and_true] at hd); (try simp only [true_and] at hd); have hc' := hw.cell; go_simp; exact rfl))) | ((with_reducible refine flow_skipg (j := ?_) (b := ?_) ?_ ?_ ?_); rotate_left 2; (focus (with_reducible rfl)); (focus (intro u w1 hw hd; (try simp only [depH] at hd); (try simp only [ext] at hd); (try simp only [extU] at hd); (try simp only [Nat.reduceAdd] at hd); (try simp only [Nat.reduceEqDiff] at hd); (try simp only [reduceIte] at hd); (try simp only [if_true] at hd); (try simp only [if_false] at hd); (try simp only [and_true] at hd); (try simp only [true_and] at hd); simp [yielded, hd]; done))) | ((with_reducible refine flow_pureg (v := ?_) (j := ?_) (b := ?_) ?_ ?_ ?_ ?_); rotate_left 3; (focus (with_reducible rfl)); (focus (intro u w1 hw hd; (try simp only [depH] at hd); (try simp only [ext] at hd); (try simp only [extU] at hd); (try simp only [Nat.reduceAdd] at hd); (try simp only [Nat.reduceEqDiff] at hd); (try simp only [reduceIte] at hd); (try simp only [if_true] at hd); (try simp only [if_false] at hd); (try simp only [and_true] at hd); (try simp only [true_and] at hd); simp [yielded, hd]; done)); (focus (intro u w1 hw hd; (try simp only [depH] at hd); (try simp only [ext] at hd); (try simp only [extU] at hd); (try simp only [Nat.reduceAdd] at hd); (try simp only [Nat.reduceEqDiff] at hd); (try simp only [reduceIte] at hd); (try simp only [if_true] at hd); (try simp only [if_false] at hd); (try simp only [and_true] at hd); (try simp only [true_and] at hd); have hc' := hw.cell; go_simp; exact rfl))) | ((with_reducible refine flow_alloc (t := ?_) (zs := ?_) ?_ ?_ ?_ ?_); rotate_left 2; (focus (with_reducible rfl)); (focus rfl); (focus (intro u w1; go_simp; exact rfl)))))
  (try clear hc hf h); intro u w' h ha hdi; replace h := h.ins; (try simp only [World.size_alloc] at h); (try dsimp only at ha); (repeat rw [World.size_alloc] at ha); (try simp only [allH] at ha); (try simp only [ext] at ha); (try simp only [extU] at ha); (try simp only [Nat.reduceAdd] at ha); (try simp only [Nat.reduceEqDiff] at ha); (try simp only [reduceIte] at ha); (try simp only [if_true] at ha); (try simp only [if_false] at ha); (try simp only [and_true] at ha); (try simp only [true_and] at ha); have hc := h.cell; have hf := h.frozen
  obtain ⟨⟨⟨⟨⟨⟨⟨ha, ha1⟩, ha2⟩, h3⟩, h4⟩, h5⟩, h6⟩, S12, hu7, hS, bS12⟩ := ha
  obtain ⟨yn, ym, ya, yl, yk, ye, hu3, hu4, hu5, hu6, hQ⟩ := tup_out h3 h4 h5 h6
  clear h3 h4 h5 h6
  replace hQ : DRes _ _ _ _ _ _ _ := hQ
  (try dsimp only)
  simp only [hu3, hu4, hu5, hu6, hu7]
  clear ha ha1 ha2 hdi hu3 hu4 hu5 hu6 hu7
  have p0 := bS12.c0
  have pf0 := bS12.frozen 0
  have p1 := bS12.c1
  have pf1 := bS12.frozen 1
  have p2 := bS12.c2
  have pf2 := bS12.frozen 2
  have pl := bS12.lt
  have KS := Lib.hid (((bS12.set 0 (.int .i64 yn)).set 1 (.int .i64 ym)).set 2 (.slice ya yl yk))
  have KH := Lib.hid (((h.setCell (p := ⟨S12, 0, none⟩) (by simp; omega) (.int .i64 yn)).setCell (p := ⟨S12, 1, none⟩) (by simp; omega) (.int .i64 ym)).setCell (p := ⟨S12, 2, none⟩) (by simp; omega) (.slice ya yl yk))
  have KQ := Lib.hid (DRes.put3 (p' := yn) (q' := ym) (ao' := ya) (n' := yl) (k' := yk) hQ bS12)
  clear hc hf h hS hQ bS12 z0 z1 zl x0 x1 x2 xl c15 cq
  go_upto_region 16 with fail
  have hb := KH.out.bel
  have bS12 := KS.out
  have hC2 := KQ.out
  simp only [List.set] at bS12
  replace hin := hin.call hb
  replace bq := bq.call hb
  replace bS1 := bS1.call hb
  replace hm1 := hm1.call hb
  replace bS3 := bS3.call hb
  replace hs1 := hs1.call hb
  replace hp := hp.call hb
  replace ht := ht.call hb
  replace hT1 := hT1.call hb
  replace bS9 := bS9.call hb
  replace hT2 := hT2.call hb
  replace bS10 := bS10.call hb
  replace bS11 := bS11.call hb
  replace hC1 := hC1.call hb
  clear KS KH KQ hb p0 p1 p2 pf0 pf1 pf2 pl
  generalize ((w'.setCell ⟨S12, 0, none⟩ (.int .i64 yn)).setCell ⟨S12, 1, none⟩ (.int .i64 ym)).setCell ⟨S12, 2, none⟩ (.slice ya yl yk) = W16 at *
  clear bq
  have x0 := bS9.c0
  have x1 := bS9.c1
  have x2 := bS9.c2
  have xl := bS9.lt
  have z0 := bS10.c0
  have z1 := bS10.c1
  have z2 := bS10.c2
  have zl := bS10.lt
  have p0 := bS11.c0
  have p1 := bS11.c1
  have p2 := bS11.c2
  have pl := bS11.lt
  have q0 := bS12.c0
  have q1 := bS12.c1
  have q2 := bS12.c2
  have ql := bS12.lt
  go_wp2_with fail
  ((with_reducible refine (c16 _ _ _ _ _ hT1 hT2).mono ?_))
  rintro e w17 ⟨rfl, hb⟩
  replace hin := hin.call hb
  replace bS1 := bS1.call hb
  replace hm1 := hm1.call hb
  replace bS3 := bS3.call hb
  replace hs1 := hs1.call hb
  replace hp := hp.call hb
  replace ht := ht.call hb
  replace hT1 := hT1.call hb
  replace bS9 := bS9.call hb
  replace hT2 := hT2.call hb
  replace bS10 := bS10.call hb
  replace bS11 := bS11.call hb
  replace hC1 := hC1.call hb
  replace bS12 := bS12.call hb
  replace hC2 := hC2.call hb
  clear hb c16 hT1 hT2 bS9 bS10 x0 x1 x2 xl z0 z1 z2 zl p0 p1 p2 pl q0 q1 q2 ql
  have p0 := bS11.c0
  have p1 := bS11.c1
  have p2 := bS11.c2
  have pl := bS11.lt
  have q0 := bS12.c0
  have q1 := bS12.c1
  have q2 := bS12.c2
  have ql := bS12.lt
  go_wp2_with fail
  ((with_reducible refine (c17 _ _ _ _ _ hC1 hC2).mono ?_))
  rintro e w18 ⟨rfl, hb⟩
  replace hin := hin.call hb
  replace bS1 := bS1.call hb
  replace hm1 := hm1.call hb
  replace bS3 := bS3.call hb
  replace hs1 := hs1.call hb
  replace hp := hp.call hb
  replace ht := ht.call hb
  replace bS11 := bS11.call hb
  replace hC1 := hC1.call hb
  replace bS12 := bS12.call hb
  replace hC2 := hC2.call hb
  clear hb c17 hC1 hC2 bS11 bS12 p0 p1 p2 pl q0 q1 q2 ql
  have x0 := bS3.c0
  have x1 := bS3.c1
  have x2 := bS3.c2
  have xl := bS3.lt
  go_wp2_with fail
  ((with_reducible refine (c18 _ _ _ hs1 hp).mono ?_))
  rintro e w19 ⟨⟨av, ae, rfl, hV1⟩, hb⟩
  replace hin := hin.call hb
  replace bS1 := bS1.call hb
  replace hm1 := hm1.call hb
  replace bS3 := bS3.call hb
  replace hs1 := hs1.call hb
  replace hp := hp.call hb
  replace ht := ht.call hb
  clear hb c18 x0 x1 x2 xl
  have x0 := bS1.c0
  have x1 := bS1.c1
  have x2 := bS1.c2
  have xl := bS1.lt
  go_wp2_with fail
  ((with_reducible refine (c19 _ _ _ hm1 hk1 hp).mono ?_))
  rintro e w20 ⟨⟨bv, be, rfl, hV2⟩, hb⟩
  replace hin := hin.call hb
  replace bS1 := bS1.call hb
  replace hm1 := hm1.call hb
  replace bS3 := bS3.call hb
  replace hs1 := hs1.call hb
  replace hp := hp.call hb
  replace ht := ht.call hb
  replace hV1 := hV1.call hb
  clear hb c19 x0 x1 x2 xl
  obtain rfl := vres_same hV1 hV2
  have x0 := bS3.c0
  have x1 := bS3.c1
  have x2 := bS3.c2
  have xl := bS3.lt
  go_wp2_with fail
  ((with_reducible refine (c20 _ _ _ _ hs1 hp ht).mono ?_))
  rintro e w21 ⟨⟨fv, fe, rfl, hG1⟩, hb⟩
  replace hin := hin.call hb
  replace bS1 := bS1.call hb
  replace hm1 := hm1.call hb
  replace bS3 := bS3.call hb
  replace hs1 := hs1.call hb
  replace hp := hp.call hb
  replace ht := ht.call hb
  replace hV1 := hV1.call hb
  replace hV2 := hV2.call hb
  clear hb c20 x0 x1 x2 xl
  obtain ⟨A1, A2, A3, A4, A5, rfl⟩ := fres_shape hG1
  go_upto_region 21 with fail
  obtain ⟨S13, hS13⟩ : ∃ z, z = w21.heap.size := ⟨_, rfl⟩
  have bS13 := Bx.new_at w21 #[.int .u64 A1, .string A2, .bool A3, .int .u64 A4, .string A5] 56 hS13
  replace hin := hin.alloc (.cells #[.int .u64 A1, .string A2, .bool A3, .int .u64 A4, .string A5] 56)
  replace bS1 := bS1.alloc (.cells #[.int .u64 A1, .string A2, .bool A3, .int .u64 A4, .string A5] 56)
  replace hm1 := hm1.call ((Below.refl _ _).alloc (Nat.le_refl _) (.cells #[.int .u64 A1, .string A2, .bool A3, .int .u64 A4, .string A5] 56))
  replace bS3 := bS3.alloc (.cells #[.int .u64 A1, .string A2, .bool A3, .int .u64 A4, .string A5] 56)
  replace hs1 := hs1.call ((Below.refl _ _).alloc (Nat.le_refl _) (.cells #[.int .u64 A1, .string A2, .bool A3, .int .u64 A4, .string A5] 56))
  replace hp := hp.call ((Below.refl _ _).alloc (Nat.le_refl _) (.cells #[.int .u64 A1, .string A2, .bool A3, .int .u64 A4, .string A5] 56))
  replace ht := ht.call ((Below.refl _ _).alloc (Nat.le_refl _) (.cells #[.int .u64 A1, .string A2, .bool A3, .int .u64 A4, .string A5] 56))
  replace hV1 := hV1.call ((Below.refl _ _).alloc (Nat.le_refl _) (.cells #[.int .u64 A1, .string A2, .bool A3, .int .u64 A4, .string A5] 56))
  replace hV2 := hV2.call ((Below.refl _ _).alloc (Nat.le_refl _) (.cells #[.int .u64 A1, .string A2, .bool A3, .int .u64 A4, .string A5] 56))
  rw [← hS13]
  clear hS13
  generalize w21.alloc (.cells #[.int .u64 A1, .string A2, .bool A3, .int .u64 A4, .string A5] 56) = W21 at *
  have x0 := bS1.c0
  have x1 := bS1.c1
  have x2 := bS1.c2
  have xl := bS1.lt
  go_wp2_with fail
  ((with_reducible refine (c21 _ _ _ _ hm1 hk1 hp ht).mono ?_))
  rintro e w22 ⟨⟨gv, ge, rfl, hG2⟩, hb⟩
  replace hin := hin.call hb
  replace bS1 := bS1.call hb
  replace hm1 := hm1.call hb
  replace bS3 := bS3.call hb
  replace hs1 := hs1.call hb
  replace hp := hp.call hb
  replace ht := ht.call hb
  replace hV1 := hV1.call hb
  replace hV2 := hV2.call hb
  replace bS13 := bS13.call hb
  clear hb c21 hp ht hk1 x0 x1 x2 xl
  obtain ⟨rfl, rfl⟩ := fres_same hG1 hG2
  clear hG1 hG2
  go_upto_region 22 with fail
  obtain ⟨S14, hS14⟩ : ∃ z, z = w22.heap.size := ⟨_, rfl⟩
  have bS14 := Bx.new_at w22 #[.int .u64 A1, .string A2, .bool A3, .int .u64 A4, .string A5] 56 hS14
  replace hin := hin.alloc (.cells #[.int .u64 A1, .string A2, .bool A3, .int .u64 A4, .string A5] 56)
  replace bS1 := bS1.alloc (.cells #[.int .u64 A1, .string A2, .bool A3, .int .u64 A4, .string A5] 56)
  replace hm1 := hm1.call ((Below.refl _ _).alloc (Nat.le_refl _) (.cells #[.int .u64 A1, .string A2, .bool A3, .int .u64 A4, .string A5] 56))
  replace bS3 := bS3.alloc (.cells #[.int .u64 A1, .string A2, .bool A3, .int .u64 A4, .string A5] 56)
  replace hs1 := hs1.call ((Below.refl _ _).alloc (Nat.le_refl _) (.cells #[.int .u64 A1, .string A2, .bool A3, .int .u64 A4, .string A5] 56))
  replace hV1 := hV1.call ((Below.refl _ _).alloc (Nat.le_refl _) (.cells #[.int .u64 A1, .string A2, .bool A3, .int .u64 A4, .string A5] 56))
  replace hV2 := hV2.call ((Below.refl _ _).alloc (Nat.le_refl _) (.cells #[.int .u64 A1, .string A2, .bool A3, .int .u64 A4, .string A5] 56))
  replace bS13 := bS13.alloc (.cells #[.int .u64 A1, .string A2, .bool A3, .int .u64 A4, .string A5] 56)
  rw [← hS14]
  clear hS14
  generalize w22.alloc (.cells #[.int .u64 A1, .string A2, .bool A3, .int .u64 A4, .string A5] 56) = W22 at *
  have x0 := bS3.c0
  have x1 := bS3.c1
  have x2 := bS3.c2
  have xl := bS3.lt
  have y0 := bS1.c0
  have y1 := bS1.c1
  have y2 := bS1.c2
  have yl := bS1.lt
  have p0 := bS13.c0
  have p1 := bS13.c1
  have p2 := bS13.c2
  have p3 := bS13.c3
  have p4 := bS13.c4
  have pl := bS13.lt
  have q0 := bS14.c0
  have q1 := bS14.c1
  have q2 := bS14.c2
  have q3 := bS14.c3
  have q4 := bS14.c4
  have ql := bS14.lt
  have h := In.self W22
  have hc := h.cell
  refine wp_region_flow 28 (by kernel_rfl) (by kernel_rfl) (fun _ _ d _ _ h => by cases d <;> exact h) ?_; simp only [List.take_succ_cons, List.take_zero, List.drop_succ_cons, List.drop_zero]; simp only [putAll, Act.put, List.setIfInBounds_toArray, List.set]; (try simp only [Nat.reduceAdd]); (try simp only [Nat.zero_add]); (repeat (first | ((with_reducible refine flow_float (v := ?_) ?_ ?_ ?_); rotate_left 1; (focus (with_reducible rfl)); (focus (intro u w1 hw hd w2; (try simp only [depH] at hd); (try simp only [ext] at hd); (try simp only [extU] at hd); (try simp only [Nat.reduceAdd] at hd); (try simp only [Nat.reduceEqDiff] at hd); (try simp only [reduceIte] at hd); (try simp only [if_true] at hd); (try simp only [if_false] at hd); (try simp only [and_true] at hd); (try simp only [true_and] at hd); go_simp; exact rfl))) | ((with_reducible refine flow_pure0 (v := ?_) ?_ ?_ ?_ ?_); rotate_left 1; (focus (with_reducible rfl)); (focus rfl); (focus (intro u w1 hw hd; (try simp only [depH] at hd); (try simp only [ext] at hd); (try simp only [extU] at hd); (try simp only [Nat.reduceAdd] at hd); (try simp only [Nat.reduceEqDiff] at hd); (try simp only [reduceIte] at hd); (try simp only [if_true] at hd); (try simp only [if_false] at hd); (try simp only [and_true] at hd); (try simp only [true_and] at hd); have hc' := hw.cell; go_simp; exact rfl))) | ((with_reducible refine flow_skipg (j := ?_) (b := ?_) ?_ ?_ ?_); rotate_left 2; (focus (with_reducible rfl)); (focus (intro u w1 hw hd; (try simp only [depH] at hd); (try simp only [ext] at hd); (try simp only [extU] at hd); (try simp only [Nat.reduceAdd] at hd); (try simp only [Nat.reduceEqDiff] at hd); (try simp only [reduceIte] at hd); (try simp only [if_true] at hd); (try simp only [if_false] at hd); (try simp only [and_true] at hd); (try simp only [true_and] at hd); simp [yielded, hd]; done))) | ((with_reducible refine flow_pureg (v := ?_) (j := ?_) (b := ?_) ?_ ?_ ?_ ?_); rotate_left 3; (focus (with_reducible rfl)); (focus (intro u w1 hw hd; (try simp only [depH] at hd); (try simp only [ext] at hd); (try simp only [extU] at hd); (try simp only [Nat.reduceAdd] at hd); (try simp only [Nat.reduceEqDiff] at hd); (try simp only [reduceIte] at hd); (try simp only [if_true] at hd); (try simp only [if_false] at hd); (try simp only [and_true] at hd); (try simp only [true_and] at hd); simp [yielded, hd]; done)); (focus (intro u w1 hw hd; (try simp only [depH] at hd); (try simp only [ext] at hd); (try simp only [extU] at hd); (try simp only [Nat.reduceAdd] at hd); (try simp only [Nat.reduceEqDiff] at hd); (try simp only [reduceIte] at hd); (try simp only [if_true] at hd); (try simp only [if_false] at hd); (try simp only [and_true] at hd); (try simp only [true_and] at hd); have hc' := hw.cell; go_simp; exact rfl))) | ((with_reducible refine flow_alloc (t := ?_) (zs := ?_) ?_ ?_ ?_ ?_); rotate_left 2; (focus (with_reducible rfl)); (focus rfl); (focus (intro u w1; go_simp; exact rfl))) | ((with_reducible refine flow_pure0 (v := ?_) ?_ ?_ ?_ ?_); rotate_left 1; (focus (with_reducible rfl)); (focus rfl); (focus (intro u w1 hw hd; (try simp only [depH] at hd); (try simp only [ext] at hd); (try simp only [extU] at hd); (try simp only [Nat.reduceAdd] at hd); (try simp only [Nat.reduceEqDiff] at hd); (try simp only [reduceIte] at hd); (try simp only [if_true] at hd); (try simp only [if_false] at hd); (try simp only [and_true] at hd); (try simp only [true_and] at hd); have hc' := hw.cell; go_simp; go_at_call 56; ((with_reducible refine (c24 _ _ _ _ _ (hV1.call hw.ins.bel) (hV2.call hw.ins.bel)).mono ?_)); rintro e w'' ⟨rfl, hb⟩; refine ⟨?_, hb⟩; exact rfl))) | ((with_reducible refine flow_pureg (v := ?_) (j := ?_) (b := ?_) ?_ ?_ ?_ ?_); rotate_left 3; (focus (with_reducible rfl)); (focus (intro u w1 hw hd; (try simp only [depH] at hd); (try simp only [ext] at hd); (try simp only [extU] at hd); (try simp only [Nat.reduceAdd] at hd); (try simp only [Nat.reduceEqDiff] at hd); (try simp only [reduceIte] at hd); (try simp only [if_true] at hd); (try simp only [if_false] at hd); (try simp only [and_true] at hd); (try simp only [true_and] at hd); simp [yielded, hd]; done)); (focus (intro u w1 hw hd; (try simp only [depH] at hd); (try simp only [ext] at hd); (try simp only [extU] at hd); (try simp only [Nat.reduceAdd] at hd); (try simp only [Nat.reduceEqDiff] at hd); (try simp only [reduceIte] at hd); (try simp only [if_true] at hd); (try simp only [if_false] at hd); (try simp only [and_true] at hd); (try simp only [true_and] at hd); have hc' := hw.cell; go_simp; go_at_call 56; ((with_reducible refine (c24 _ _ _ _ _ (hV1.call hw.ins.bel) (hV2.call hw.ins.bel)).mono ?_)); rintro e w'' ⟨rfl, hb⟩; refine ⟨?_, hb⟩; exact rfl))) | ((with_reducible refine flow_pure0 (v := ?_) ?_ ?_ ?_ ?_); rotate_left 1; (focus (with_reducible rfl)); (focus rfl); (focus (intro u w1 hw hd; (try simp only [depH] at hd); (try simp only [ext] at hd); (try simp only [extU] at hd); (try simp only [Nat.reduceAdd] at hd); (try simp only [Nat.reduceEqDiff] at hd); (try simp only [reduceIte] at hd); (try simp only [if_true] at hd); (try simp only [if_false] at hd); (try simp only [and_true] at hd); (try simp only [true_and] at hd); have hc' := hw.cell; go_simp; go_at_call 33; ((with_reducible refine (c22 _ _ (hs1.call hw.ins.bel)).mono ?_)); rintro e w'' ⟨rfl, hb⟩; refine ⟨?_, hb⟩; exact rfl))) | ((with_reducible refine flow_pureg (v := ?_) (j := ?_) (b := ?_) ?_ ?_ ?_ ?_); rotate_left 3; (focus (with_reducible rfl)); (focus (intro u w1 hw hd; (try simp only [depH] at hd); (try simp only [ext] at hd); (try simp only [extU] at hd); (try simp only [Nat.reduceAdd] at hd); (try simp only [Nat.reduceEqDiff] at hd); (try simp only [reduceIte] at hd); (try simp only [if_true] at hd); (try simp only [if_false] at hd); (try simp only [and_true] at hd); (try simp only [true_and] at hd); simp [yielded, hd]; done)); (focus (intro u w1 hw hd; (try simp only [depH] at hd); (try simp only [ext] at hd); (try simp only [extU] at hd); (try simp only [Nat.reduceAdd] at hd); (try simp only [Nat.reduceEqDiff] at hd); (try simp only [reduceIte] at hd); (try simp only [if_true] at hd); (try simp only [if_false] at hd); (try simp only [and_true] at hd); (try simp only [true_and] at hd); have hc' := hw.cell; go_simp; go_at_call 33; ((with_reducible refine (c22 _ _ (hs1.call hw.ins.bel)).mono ?_)); rintro e w'' ⟨rfl, hb⟩; refine ⟨?_, hb⟩; exact rfl))) | ((with_reducible refine flow_pure0 (v := ?_) ?_ ?_ ?_ ?_); rotate_left 1; (focus (with_reducible rfl)); (focus rfl); (focus (intro u w1 hw hd; (try simp only [depH] at hd); (try simp only [ext] at hd); (try simp only [extU] at hd); (try simp only [Nat.reduceAdd] at hd); (try simp only [Nat.reduceEqDiff] at hd); (try simp only [reduceIte] at hd); (try simp only [if_true] at hd); (try simp only [if_false] at hd); (try simp only [and_true] at hd); (try simp only [true_and] at hd); have hc' := hw.cell; go_simp; go_at_call 57; ((with_reducible refine (c23 _ _ (hm1.call hw.ins.bel)).mono ?_)); rintro e w'' ⟨rfl, hb⟩; refine ⟨?_, hb⟩; exact rfl))) | ((with_reducible refine flow_pureg (v := ?_) (j := ?_) (b := ?_) ?_ ?_ ?_ ?_); rotate_left 3; (focus (with_reducible rfl)); (focus (intro u w1 hw hd; (try simp only [depH] at hd); (try simp only [ext] at hd); (try simp only [extU] at hd); (try simp only [Nat.reduceAdd] at hd); (try simp only [Nat.reduceEqDiff] at hd); (try simp only [reduceIte] at hd); (try simp only [if_true] at hd); (try simp only [if_false] at hd); (try simp only [and_true] at hd); (try simp only [true_and] at hd); simp [yielded, hd]; done)); (focus (intro u w1 hw hd; (try simp only [depH] at hd); (try simp only [ext] at hd); (try simp only [extU] at hd); (try simp only [Nat.reduceAdd] at hd); (try simp only [Nat.reduceEqDiff] at hd); (try simp only [reduceIte] at hd); (try simp only [if_true] at hd); (try simp only [if_false] at hd); (try simp only [and_true] at hd); (try simp only [true_and] at hd); have hc' := hw.cell; go_simp; go_at_call 57; ((with_reducible refine (c23 _ _ (hm1.call hw.ins.bel)).mono ?_)); rintro e w'' ⟨rfl, hb⟩; refine ⟨?_, hb⟩; exact rfl))) | ((with_reducible refine flow_pure0 (v := ?_) ?_ ?_ ?_ ?_); rotate_left 1; (focus (with_reducible rfl)); (focus rfl); (focus (intro u w1 hw hd; (try simp only [depH] at hd); (try simp only [ext] at hd); (try simp only [extU] at hd); (try simp only [Nat.reduceAdd] at hd); (try simp only [Nat.reduceEqDiff] at hd); (try simp only [reduceIte] at hd); (try simp only [if_true] at hd); (try simp only [if_false] at hd); (try simp only [and_true] at hd); (try simp only [true_and] at hd); have hc' := hw.cell; go_simp; go_at_call 10; ((with_reducible refine (cz _).mono ?_)); rintro e w'' ⟨rfl, hb⟩; refine ⟨?_, hb⟩; exact rfl))) | ((with_reducible refine flow_pureg (v := ?_) (j := ?_) (b := ?_) ?_ ?_ ?_ ?_); rotate_left 3; (focus (with_reducible rfl)); (focus (intro u w1 hw hd; (try simp only [depH] at hd); (try simp only [ext] at hd); (try simp only [extU] at hd); (try simp only [Nat.reduceAdd] at hd); (try simp only [Nat.reduceEqDiff] at hd); (try simp only [reduceIte] at hd); (try simp only [if_true] at hd); (try simp only [if_false] at hd); (try simp only [and_true] at hd); (try simp only [true_and] at hd); simp [yielded, hd]; done)); (focus (intro u w1 hw hd; (try simp only [depH] at hd); (try simp only [ext] at hd); (try simp only [extU] at hd); (try simp only [Nat.reduceAdd] at hd); (try simp only [Nat.reduceEqDiff] at hd); (try simp only [reduceIte] at hd); (try simp only [if_true] at hd); (try simp only [if_false] at hd); (try simp only [and_true] at hd); (try simp only [true_and] at hd); have hc' := hw.cell; go_simp; go_at_call 10; ((with_reducible refine (cz _).mono ?_)); rintro e w'' ⟨rfl, hb⟩; refine ⟨?_, hb⟩; exact rfl)))))
  (try clear hc hf h); intro u w' h ha hdi; replace h := h.ins; (try simp only [World.size_alloc] at h); (try dsimp only at ha); (repeat rw [World.size_alloc] at ha); (try simp only [allH] at ha); (try simp only [ext] at ha); (try simp only [extU] at ha); (try simp only [Nat.reduceAdd] at ha); (try simp only [Nat.reduceEqDiff] at ha); (try simp only [reduceIte] at ha); (try simp only [if_true] at ha); (try simp only [if_false] at ha); (try simp only [and_true] at ha); (try simp only [true_and] at ha); have hc := h.cell; have hf := h.frozen
  (try obtain ha := ha); (try dsimp only);  simp only [ha]; clear ha hdi 
  replace hin := hin.call h.bel
  go_wp2_with fail
  go_ret
  exact ⟨rfl, hin.bel⟩
set_option maxRecDepth 100000 in
set_option maxHeartbeats 4000000 in
theorem dense_large (w : World) (cn cd : Int) (R0 C0 R1 C1 : Nat) (a b d g : Option Addr) (ca cb kd kg la lb lv lw : Nat) (hla : la < 9223372036854775808) (hlb : lb < 9223372036854775808) (hs : ¬ (la ≤ 40 ∧ lb ≤ 40 ∧ lv ≤ 6 ∧ lw ≤ 6)) :
    Calls Tryz.prog 8 #[.agg #[.int .i64 cn, .int .u32 cd], .agg #[.int .u8 R0, .int .u8 C0, .slice a la ca], .agg #[.int .u8 R1, .int .u8 C1, .slice b lb cb], .slice d lv kd, .slice g lw kg] w fun e w' => e = .returned (.bool true) ∧ Below w.heap.size w w' := by
  have c0 := fun W b1 T h => small_two W b1 T R0 C0 R1 C1 a b la lb ca cb hla hlb h
  have c1 := works_any
  by_cases h1 : la ≤ 40 ∧ lb ≤ 40
  · rw [show (decide (la ≤ 40) && decide (lb ≤ 40)) = true by simp; omega] at c0
    by_cases h2 : lv ≤ 6
    · have k1 : ¬ (6 : Int) < lv := by omega
      have k2 : (6 : Int) < lw := by omega
      clear hs hla hlb h1 h2
      go_enter Tryz.func8, Tryz.ntmps8
      go_wp2_with fail
      ((with_reducible refine (c0 _ _ 74 ?_).mono ?_))
      · exact Bx.new_at _ _ _ (by simp)
      rintro e w1 ⟨rfl, hb⟩
      have hin := (((((In.self w).alloc _).alloc _).alloc _).alloc _).call hb
      clear hb c0
      go_wp2_with fail
      ((with_reducible refine (c1 _).mono ?_))
      rintro e w2 ⟨rfl, hb⟩
      replace hin := hin.call hb
      clear hb c1
      go_wp2_with fail
      go_ret
      exact ⟨rfl, hin.bel⟩
    · have k1 : (6 : Int) < lv := by omega
      clear hs hla hlb h1 h2
      go_enter Tryz.func8, Tryz.ntmps8
      go_wp2_with fail
      ((with_reducible refine (c0 _ _ 74 ?_).mono ?_))
      · exact Bx.new_at _ _ _ (by simp)
      rintro e w1 ⟨rfl, hb⟩
      have hin := (((((In.self w).alloc _).alloc _).alloc _).alloc _).call hb
      clear hb c0
      go_wp2_with fail
      ((with_reducible refine (c1 _).mono ?_))
      rintro e w2 ⟨rfl, hb⟩
      replace hin := hin.call hb
      clear hb c1
      go_wp2_with fail
      go_ret
      exact ⟨rfl, hin.bel⟩
  · rw [show (decide (la ≤ 40) && decide (lb ≤ 40)) = false by simp; omega] at c0
    clear hs hla hlb h1
    go_enter Tryz.func8, Tryz.ntmps8
    go_wp2_with fail
    ((with_reducible refine (c0 _ _ 74 ?_).mono ?_))
    · exact Bx.new_at _ _ _ (by simp)
    rintro e w1 ⟨rfl, hb⟩
    have hin := (((((In.self w).alloc _).alloc _).alloc _).alloc _).call hb
    clear hb c0
    go_wp2_with fail
    ((with_reducible refine (c1 _).mono ?_))
    rintro e w2 ⟨rfl, hb⟩
    replace hin := hin.call hb
    clear hb c1
    go_wp2_with fail
    go_ret
    exact ⟨rfl, hin.bel⟩
theorem dense_all (w : World) (cn cd : Int) (R0 C0 R1 C1 : Nat) (hR0 : R0 < 256) (hC0 : C0 < 256) (hR1 : R1 < 256) (hC1 : C1 < 256) (a b d g : Option Addr) (ca cb kd kg : Nat) (qa qb qv qw : List (Int × Int)) (hqa : QAt w a qa) (hqb : QAt w b qb) (hqv : QAt w d qv) (hqw : QAt w g qw) (hoa : QOk qa) (hob : QOk qb) (hov : QOk qv) (how : QOk qw) (hla : qa.length ≤ maxLen) (hlb : qb.length ≤ maxLen)
    (hn0 : -9223372036854775808 ≤ cn) (hn1 : cn < 9223372036854775808) (hd0 : 0 ≤ cd) (hd1 : cd < 4294967296) :
    Calls Tryz.prog 8 #[.agg #[.int .i64 cn, .int .u32 cd], .agg #[.int .u8 R0, .int .u8 C0, .slice a qa.length ca], .agg #[.int .u8 R1, .int .u8 C1, .slice b qb.length cb], .slice d qv.length kd, .slice g qw.length kg] w fun e w' => e = .returned (.bool true) ∧ Below w.heap.size w w' := by
  by_cases hs : qa.length ≤ 40 ∧ qb.length ≤ 40 ∧ qv.length ≤ 6 ∧ qw.length ≤ 6
  · exact dense_small w cn cd R0 C0 R1 C1 hR0 hC0 hR1 hC1 a b d g ca cb kd kg qa qb qv qw hqa hqb hqv hqw hoa hob hov how hs.1 hs.2.1 hs.2.2.1 hs.2.2.2 hn0 hn1 hd0 hd1
  · exact dense_large w cn cd R0 C0 R1 C1 a b d g ca cb kd kg qa.length qb.length qv.length qw.length (by simp only [maxLen] at hla; omega) (by simp only [maxLen] at hlb; omega) hs
end Gus
end
section
/- What all cards of this seat share: a world that holds the listed tables; the last step of a row whose call only makes memory. -/
namespace Gus
open Go Go.RowKit Go.Proofs Go.ChangeShapes Go.WideShapes Go.ChangeAt
theorem ownK : ownKnob Tryz.prog.godebug = none := by kernel_rfl
def tabP : Obj → Obj
  | .cells _ t frozen => .cells #[.int .u64 1, .int .u64 10, .int .u64 100, .int .u64 1000, .int .u64 10000, .int .u64 100000, .int .u64 1000000, .int .u64 10000000, .int .u64 100000000, .int .u64 1000000000, .int .u64 10000000000, .int .u64 100000000000, .int .u64 1000000000000, .int .u64 10000000000000, .int .u64 100000000000000, .int .u64 1000000000000000, .int .u64 10000000000000000, .int .u64 100000000000000000, .int .u64 1000000000000000000, .int .u64 10000000000000000000] t frozen
  | o => o
def tabA : Obj → Obj
  | .cells _ t frozen => .cells #[.int .u8 0, .int .u8 1, .int .u8 28, .int .u8 2, .int .u8 29, .int .u8 14, .int .u8 24, .int .u8 3, .int .u8 30, .int .u8 22, .int .u8 20, .int .u8 15, .int .u8 25, .int .u8 17, .int .u8 4, .int .u8 8, .int .u8 31, .int .u8 27, .int .u8 13, .int .u8 23, .int .u8 21, .int .u8 19, .int .u8 16, .int .u8 7, .int .u8 26, .int .u8 12, .int .u8 18, .int .u8 6, .int .u8 11, .int .u8 5, .int .u8 10, .int .u8 9] t frozen
  | o => o
def tabB : Obj → Obj
  | .cells _ t frozen => .cells #[.int .u8 0, .int .u8 1, .int .u8 56, .int .u8 2, .int .u8 57, .int .u8 49, .int .u8 28, .int .u8 3, .int .u8 61, .int .u8 58, .int .u8 42, .int .u8 50, .int .u8 38, .int .u8 29, .int .u8 17, .int .u8 4, .int .u8 62, .int .u8 47, .int .u8 59, .int .u8 36, .int .u8 45, .int .u8 43, .int .u8 51, .int .u8 22, .int .u8 53, .int .u8 39, .int .u8 33, .int .u8 30, .int .u8 24, .int .u8 18, .int .u8 12, .int .u8 5, .int .u8 63, .int .u8 55, .int .u8 48, .int .u8 27, .int .u8 60, .int .u8 41, .int .u8 37, .int .u8 16, .int .u8 46, .int .u8 35, .int .u8 44, .int .u8 21, .int .u8 52, .int .u8 32, .int .u8 23, .int .u8 11, .int .u8 54, .int .u8 26, .int .u8 40, .int .u8 15, .int .u8 34, .int .u8 20, .int .u8 31, .int .u8 10, .int .u8 25, .int .u8 14, .int .u8 19, .int .u8 9, .int .u8 13, .int .u8 8, .int .u8 7, .int .u8 6] t frozen
  | o => o
noncomputable def laidW (os : Os) : World :=
  { World.holding Tryz.prog os ⟨#[], #[], []⟩ with heap := (((World.holding Tryz.prog os ⟨#[], #[], []⟩).heap.modify 0 tabP).modify 3 tabA).modify 4 tabB }
section
variable {H : Type} {enc : TypeId × Value → H} {P : Program}
/-- a call behind which nothing that was there has turned: its row's last condition -/
theorem row_end {f : Func} {s : ChangeSpec} {apart fresh handsOn again : Bool} {W W' : World} {args : Array Value} {v : Value} {ds gs : List (DataW H)} {before pa pv : List MemPlace}
    (hb : Below W.heap.size W W') (hW : DataW.Whole enc P f.params.toList s.vars apart W args.toList ds gs before) (hps : before = pa ++ pv)
    (hargs : ∀ sp : Nat → Bool, (∀ p ∈ before, sp p.block = true) → DataW.TrodAll enc P W' 0 sp true f.params.toList args.toList (s.fn H (ds ++ gs)).args pa)
    (hvars : ∀ sp : Nat → Bool, (∀ p ∈ before, sp p.block = true) → DataW.TrodVars enc P W' sp s.vars (s.fn H (ds ++ gs)).vars pv)
    (hres : ∀ (b : Nat) (sp : Nat → Bool) (hd : Bool), DataW.TrodAll enc P W' b sp hd f.resultTypes.toList (v.resultList f.resultTypes.size) (s.fn H (ds ++ gs)).results [])
    (hok : ∀ (j : Nat) (t : TypeId) (r : Value), f.resultTypes[j]? = some t → (v.resultList f.resultTypes.size)[j]? = some r → Value.okWide P W' .any 0 t r) :
    s.post enc P f apart fresh handsOn again W args v W' := by
  have hin : ∀ p ∈ before, decide (p.block < W.heap.size) = true := fun p hp => decide_eq_true (hW.lt p hp)
  have hkept : W.keptBut W' (fun p => p ∈ before ∧ p ∈ pa ++ pv) := World.keptBut_mono (fun p hp => ⟨hp, hps ▸ hp⟩) (hb.frame (· ∈ before))
  refine ⟨ds, gs, before, [], pa, pv, hW, hres _ _ _, hargs _ hin, hvars _ hin, World.keptBut_mono (fun p hp => ⟨hp.1, ?_⟩) hkept, fun _ => ?_⟩
  · exact .inr (List.mem_append.1 hp.2)
  · have hlt := hW.lt
    obtain ⟨_, _, _, _, _, hz, hn⟩ := hW
    refine ⟨hok, _, _, ([] ++ pa) ++ pv, ⟨[] ++ pa, pv, trodAll_append (hargs _ (fun _ _ => rfl)) (hres _ _ _), hvars _ (fun _ _ => rfl), rfl, ?_, ?_⟩, ?_⟩
    · intro b off hp
      have hq : MemPlace.cell b off ∈ before := by rw [hps]; simpa using hp
      exact (hb.frozen (hlt _ hq)).trans (hz b off hq)
    · intro ha
      have h2 := hn ha
      rw [hps] at h2
      simpa using h2
    · intro p hp _
      rw [hps]
      simpa using hp
end
end Gus
end
section
/- Arguments of the laws as they are read: fractions, slices of fractions, matrices; they read as before where nothing has turned. -/
namespace Gus
open Go Go.RowKit Go.Proofs Go.ChangeShapes Go.WideShapes Go.ChangeAt Go.Deep
section
variable {H : Type} {enc : TypeId × Value → H} {W : World} {base : Nat} {sp : Nat → Bool} {held : Bool}
theorem laidOut : laidOutB Tryz.prog = true := by kernel_rfl
theorem args_stay {W' : World} {sp' : Nat → Bool} (hb : Below W.heap.size W W') : ∀ {ts : List TypeId} {vs : List Value} {ds : List (DataW H)} {p : List MemPlace}, (∀ t ∈ ts, Tryz.prog.readableRec t = true ∧ t < Tryz.prog.types.size) → DataW.TrodAll enc Tryz.prog W 0 (fun _ => true) true ts vs ds p → (∀ x ∈ p, x.block < W.heap.size) → (∀ x ∈ p, sp' x.block = true) → DataW.TrodAll enc Tryz.prog W' 0 sp' true ts vs ds p
  | [], _, _, _, _, h, _, _ => by
    obtain ⟨rfl, rfl, rfl⟩ := trodAll_nil h
    exact trodAll_mk0
  | t :: ts, _, _, _, hts, h, hlt, hsp => by
    obtain ⟨v, vs, d, ds, p, q, rfl, rfl, rfl, h0, h1⟩ := trodAll_cons h
    exact trodAll_cons_mk (WideElems.Trod_stays laidOut (hts t (.head _)).1 (hts t (.head _)).2 h0 (fun x hx => hb.same (hlt x (List.mem_append.2 (.inl hx)))) (fun x hx => hsp x (List.mem_append.2 (.inl hx))))
      (args_stay hb (fun t ht => hts t (List.mem_cons_of_mem _ ht)) h1 (fun x hx => hlt x (List.mem_append.2 (.inr hx))) (fun x hx => hsp x (List.mem_append.2 (.inr hx))))
theorem cell_in {w : World} {a : Addr} {v : Value} (h : w.cell? a = some v) : a.block < w.heap.size := by
  rcases Nat.lt_or_ge a.block w.heap.size with h1 | h1
  · exact h1
  · have : w.heap[a.block]? = none := by simp [h1]
    simp [World.cell?, this] at h
set_option maxRecDepth 100000 in
theorem open_q {b0 : Nat} {v : Value} {d : DataW H} {ps : List MemPlace} (hval : Value.okWide Tryz.prog W .any b0 35 v) (hd : DataW.Trod enc Tryz.prog W base sp held 35 v d ps) :
    ∃ n e : Int, v = .agg #[.int .i64 n, .int .u32 e] ∧ -9223372036854775808 ≤ n ∧ n < 9223372036854775808 ∧ 0 ≤ e ∧ e < 4294967296 := by
  obtain ⟨cs, rfl, hs⟩ := okWide_struct Tryz.underlying35 hval
  obtain ⟨fuel, hf⟩ := hd
  rw [show Tryz.prog.cellsOf 35 = 2 by kernel_rfl] at hs
  obtain ⟨x, y, rfl⟩ : ∃ x y, cs = #[x, y] := by
    rcases cs with ⟨l⟩
    match l, hs with
    | [x, y], _ => exact ⟨x, y, rfl⟩
  obtain ⟨y0, y1, m, _, _, h0, h1⟩ := trod_struct2 Tryz.underlying35 hf
  obtain ⟨n, g0, _, w0⟩ := DataW.trod_int Tryz.underlying2 h0
  obtain ⟨e, g1, _, w1⟩ := DataW.trod_int Tryz.underlying33 h1
  simp [Value.cells, show Tryz.prog.cellsOf 2 = 1 by kernel_rfl, show Tryz.prog.cellsOf 33 = 1 by kernel_rfl] at g0 g1
  subst g0 g1
  have b0 := bounds_i64 w0
  have b1 := bounds_u32 w1
  exact ⟨n, e, rfl, b0.1, by omega, b1.1, by omega⟩
set_option maxRecDepth 100000 in
theorem open_qs {fuel : Nat} {cs : List Value} {x : DataW H × List MemPlace} (h : DataW.trod enc Tryz.prog W base sp held fuel 72 cs = some x) :
    ∃ a qs cap, cs = [.slice a (List.length qs) cap] ∧ QAt W a qs ∧ QOk qs ∧ qs.length ≤ maxLen := by
  rcases open_slice_pairs (P := Tryz.prog) Tryz.underlying72 Tryz.underlying35 (by kernel_rfl) rfl rfl (by kernel_rfl) (by kernel_rfl) h with ⟨rfl, _⟩ | ⟨a, len, cap, m, n, V0, V1, D0, D1, P0, P1, rfl, _, hlc, hcm, hm, _, hx⟩
  · exact ⟨none, [], 0, rfl, fun i hi => absurd hi (Nat.not_lt_zero _), fun p hp => by (cases hp), Nat.zero_le _⟩
  · have hlm : len ≤ m := by rw [hm]; split <;> omega
    have hz : ∀ i, i < len → ∃ z0 z1 : Int, V0 i = .int .i64 z0 ∧ V1 i = .int .u32 z1 ∧ (Lit.int .i64 z0).wf = true ∧ (Lit.int .u32 z1).wf = true := fun i hi => by
      obtain ⟨_, _, h2, h3⟩ := hx i (by omega)
      obtain ⟨z0, g0, _, w0⟩ := DataW.trod_int Tryz.underlying2 h2
      obtain ⟨z1, g1, _, w1⟩ := DataW.trod_int Tryz.underlying33 h3
      simp only [List.cons.injEq, and_true] at g0 g1
      exact ⟨z0, z1, g0, g1, w0, w1⟩
    refine ⟨some a, (List.range len).map fun i => (RowKit.intOf (V0 i), RowKit.intOf (V1 i)), cap, by rw [List.length_map, List.length_range], fun i hi => ?_, fun p hp => ?_, by rw [List.length_map, List.length_range]; omega⟩
    · rw [List.length_map, List.length_range] at hi
      obtain ⟨z0, z1, e0, e1, _, _⟩ := hz i hi
      obtain ⟨c0, c1, _, _⟩ := hx i (by omega)
      obtain ⟨b, off, spot⟩ := a
      obtain rfl : spot = none := by
        have hs := World.cell?_spot (hx 0 (by omega)).1
        simpa [Addr.add] using hs
      rw [add_plain] at c0 c1
      refine ⟨b, off, rfl, cell_in c0, ?_, ?_⟩
      · rw [Nat.mul_comm, c0, e0]; simp [hi, e0, RowKit.intOf]
      · rw [Nat.mul_comm, Nat.add_assoc, c1, e1]; simp [hi, e1, RowKit.intOf]
    · obtain ⟨i, hi, rfl⟩ := List.mem_map.1 hp
      obtain ⟨z0, z1, e0, e1, w0, w1⟩ := hz i (List.mem_range.1 hi)
      have b0 := bounds_i64 w0
      have b1 := bounds_u32 w1
      simp only [e0, e1, RowKit.intOf]
      exact ⟨b0.1, by omega, b1.1, by omega⟩
set_option maxRecDepth 100000 in
theorem open_vec {b0 : Nat} {v : Value} {d : DataW H} {ps : List MemPlace} (hval : Value.okWide Tryz.prog W .any b0 72 v) (hd : DataW.Trod enc Tryz.prog W base sp held 72 v d ps) :
    ∃ a qs cap, v = .slice a (List.length qs) cap ∧ QAt W a qs ∧ QOk qs ∧ qs.length ≤ maxLen := by
  obtain ⟨a, len, cap, rfl⟩ := okWide_slice Tryz.underlying72 hval
  obtain ⟨fuel, hf⟩ := hd
  obtain ⟨a', qs, cap', e, h1, h2, h3⟩ := open_qs hf
  simp [Value.cells] at e
  obtain ⟨rfl, rfl, rfl⟩ := e
  exact ⟨a, qs, cap, rfl, h1, h2, h3⟩
set_option maxRecDepth 100000 in
theorem open_m {b0 : Nat} {v : Value} {d : DataW H} {ps : List MemPlace} (hval : Value.okWide Tryz.prog W .any b0 74 v) (hd : DataW.Trod enc Tryz.prog W base sp held 74 v d ps) :
    ∃ (R C : Nat) (a : Option Addr) (qs : List (Int × Int)) (cap : Nat), v = .agg #[.int .u8 R, .int .u8 C, .slice a qs.length cap] ∧ R < 256 ∧ C < 256 ∧ QAt W a qs ∧ QOk qs ∧ qs.length ≤ maxLen := by
  obtain ⟨cs, rfl, hs⟩ := okWide_struct Tryz.underlying74 hval
  obtain ⟨fuel, hf⟩ := hd
  rw [show Tryz.prog.cellsOf 74 = 3 by kernel_rfl] at hs
  obtain ⟨x, y, z, rfl⟩ : ∃ x y z, cs = #[x, y, z] := by
    rcases cs with ⟨l⟩
    match l, hs with
    | [x, y, z], _ => exact ⟨x, y, z, rfl⟩
  obtain ⟨xs, m, _, _, _, hxl, hf⟩ := DataW.trod_struct Tryz.underlying74 hf
  match xs, hxl with
  | [y0, y1, y2], _ =>
    have h0 := hf 0 _ rfl
    have h1 := hf 1 _ rfl
    have h2 := hf 2 _ rfl
    obtain ⟨n, g0, _, w0⟩ := DataW.trod_int Tryz.underlying5 h0
    obtain ⟨e, g1, _, w1⟩ := DataW.trod_int Tryz.underlying5 h1
    obtain ⟨a, qs, cap, g2, k1, k2, k3⟩ := open_qs h2
    simp [Value.cells, show Tryz.prog.cellsOf 5 = 1 by kernel_rfl, show Tryz.prog.cellsOf 72 = 1 by kernel_rfl] at g0 g1 g2
    subst g0 g1 g2
    have b0 := bounds_u8 w0
    have b1 := bounds_u8 w1
    obtain ⟨n, rfl⟩ := Int.eq_ofNat_of_zero_le b0.1
    obtain ⟨e, rfl⟩ := Int.eq_ofNat_of_zero_le b1.1
    exact ⟨n, e, a, qs, cap, rfl, by omega, by omega, k1, k2, k3⟩
end
end Gus
end
section
/- Proved: whatever the fraction, the matrices and the vectors, gussetlaw16.SparsesDense returns true, and the arguments read as before. Conditions: the three listed tables hold what the program's text lays (the card ties them). -/
namespace Go.Proofs.YtjiobckoldnonaaGreatDoor
open Go Go.RowKit Go.ChangeShapes Go.WideShapes Go.ChangeAt Gus
namespace Den
theorem params_ok : ∀ t ∈ Tryz.f8.params.toList, Tryz.prog.readableRec t = true ∧ t < Tryz.prog.types.size := by
  rw [Tryz.params8]
  intro t ht
  simp only [List.mem_cons, List.not_mem_nil, or_false] at ht
  rcases ht with rfl | rfl | rfl | rfl | rfl <;> exact ⟨by kernel_rfl, of_decide_eq_true (by kernel_rfl)⟩
set_option maxRecDepth 100000 in
theorem contract (H : Type) (enc : TypeId × Value → H) (W : World) (base : Nat) (args : Array Value) (ds gs : List (DataW H)) (before : List MemPlace)
    (hval : ∀ (j : Nat) t v, Tryz.f8.params[j]? = some t → args[j]? = some v → Value.okWide Tryz.prog W .any base t v)
    (hW : DataW.Whole enc Tryz.prog Tryz.f8.params.toList Rows.sparsesDenseSpec.vars false W args.toList ds gs before) :
    Calls Tryz.prog 8 args W fun e W' => ∃ v, e = .returned v ∧ Rows.sparsesDenseSpec.post enc Tryz.prog Tryz.f8 false true false false W args v W' := by
  have hW' := hW
  have hlt := hW.lt
  obtain ⟨p, q, hA0, hV, rfl, hfz, hnd⟩ := hW
  have hA1 : DataW.TrodAll enc Tryz.prog W 0 (fun _ => true) true Tryz.f8.params.toList args.toList ds p := hA0
  have hA := hA1
  rw [Tryz.params8] at hA hval
  obtain ⟨v0, vs0, d0, ds0, p0, q0, hargs, rfl, rfl, h0, r0⟩ := trodAll_cons hA
  obtain ⟨v1, vs1, d1, ds1, p1, q1, rfl, rfl, rfl, h1, r1⟩ := trodAll_cons r0
  obtain ⟨v2, vs2, d2, ds2, p2, q2, rfl, rfl, rfl, h2, r2⟩ := trodAll_cons r1
  obtain ⟨v3, vs3, d3, ds3, p3, q3, rfl, rfl, rfl, h3, r3⟩ := trodAll_cons r2
  obtain ⟨v4, vs4, d4, ds4, p4, q4, rfl, rfl, rfl, h4, r4⟩ := trodAll_cons r3
  obtain ⟨rfl, rfl, rfl⟩ := trodAll_nil r4
  obtain rfl : args = #[v0, v1, v2, v3, v4] := by cases args; simp_all
  obtain ⟨rfl, rfl⟩ := trodVars_none hV
  obtain ⟨n0, e0, rfl, h00, h01, h02, h03⟩ := open_q (hval 0 35 v0 (by rfl) (by rfl)) h0
  obtain ⟨R1, C1, a1, q1, k1, rfl, hR1, hC1, hq1, ho1, hl1⟩ := open_m (hval 1 74 v1 (by rfl) (by rfl)) h1
  obtain ⟨R2, C2, a2, q2, k2, rfl, hR2, hC2, hq2, ho2, hl2⟩ := open_m (hval 2 74 v2 (by rfl) (by rfl)) h2
  obtain ⟨a3, q3, k3, rfl, hq3, ho3, hl3⟩ := open_vec (hval 3 72 v3 (by rfl) (by rfl)) h3
  obtain ⟨a4, q4, k4, rfl, hq4, ho4, hl4⟩ := open_vec (hval 4 72 v4 (by rfl) (by rfl)) h4
  refine (dense_all W n0 e0 R1 C1 R2 C2 hR1 hC1 hR2 hC2 a1 a2 a3 a4 k1 k2 k3 k4 q1 q2 q3 q4 hq1 hq2 hq3 hq4 ho1 ho2 ho3 ho4 hl1 hl2 h00 h01 h02 h03).mono fun e W' ⟨he, hb⟩ => ?_
  subst he
  exact ⟨_, rfl, row_end (pv := []) hb hW' rfl (fun sp hsp => args_stay hb params_ok hA1 (fun x hx => hlt x (List.mem_append.2 (.inl hx))) (fun x hx => hsp x (List.mem_append.2 (.inl hx)))) (fun _ _ => rfl)
    (fun _ _ _ => trodAll_cons_mk (shut_bool Tryz.underlying4 _) trodAll_mk0) (ok_one (by kernel_rfl) rfl (okWide_bool_mk Tryz.underlying4 _))⟩
abbrev input : Array Value := #[.agg #[.int .i64 0, .int .u32 0], .agg #[.int .u8 0, .int .u8 0, .slice none 0 0], .agg #[.int .u8 0, .int .u8 0, .slice none 0 0], .slice none 0 0, .slice none 0 0]
theorem laid_met (os : Os) : laidMet Tryz.prog Rows.sparsesDenseRow.laid ((laidW os).forCall (fun _ _ => 0) ⟨#[], input, []⟩).memory :=
  laidMet_of_run' 8 (by kernel_rfl) (by kernel_rfl)
theorem reads (os : Os) {H : Type} (enc : TypeId × Value → H) : ∃ places, DataW.whole enc Tryz.prog ((laidW os).forCall (fun _ _ => 0) ⟨#[], input, []⟩).memory Tryz.f8.params.toList Rows.sparsesDenseSpec.vars false input.toList 8 = some ([.agg [.lit (.int .i64 0), .lit (.int .u32 0)], .agg [.lit (.int .u8 0), .lit (.int .u8 0), .nil], .agg [.lit (.int .u8 0), .lit (.int .u8 0), .nil], .nil, .nil], [], places) :=
  ⟨[], by kernel_rfl⟩
set_option maxRecDepth 100000 in
theorem lifted (os : Os) (started : os.Started) (H : Type) (enc : TypeId × Value → H) (F : Stop.Interp) :
    ReturnsInHanded {} Tryz.checked os 8 .any ((OpenSpec.ofChange Rows.sparsesDenseSpec).preRow enc Tryz.prog Tryz.f8 Rows.sparsesDenseRow.domain false Rows.sparsesDenseRow.laid) (((OpenSpec.ofChange Rows.sparsesDenseSpec).at F).post enc Tryz.prog Tryz.f8 false true false false) := by
  obtain ⟨places, hx⟩ := reads os enc
  refine returnsInHanded_of_row (C := Tryz.checked) (s := OpenSpec.ofChange Rows.sparsesDenseSpec) ownK started (by kernel_rfl) Tryz.func8
    (witness_row_at (enc := enc) (C := Tryz.checked) false (laidW os) input rfl (by kernel_rfl) (by kernel_rfl) (by kernel_rfl)
      (OpenSpec.preRow_of_cond 8 hx (by kernel_rfl) (fun k hk => by cases hk) (by kernel_rfl) (laid_met os))) ?_
  intro W base args ds gs before hval hW _ _ _ _ _ _
  exact contract H enc W base args ds gs before hval hW
theorem said : Rows.SparsesDenseSaid :=
  OpenClaim.holds_of_cond 8 Tryz.f8 rfl rfl rfl rfl rfl rfl rfl ⟨rfl, rfl, rfl, rfl, rfl⟩ rfl rfl rfl rfl rfl (by kernel_rfl) Tryz.func8 (by kernel_rfl)
    (of_decide_eq_true (by kernel_rfl)) (by unfold Func.isWrapper; first | (rw [if_pos (by decide +kernel)]; kernel_rfl) | (rw [if_neg (by decide +kernel)]; exact ⟨rfl, rfl⟩))
    (fun os started H enc _ F => by rw [OpenClaim.pre_eq_preRow]; exact lifted os started H enc F)
theorem plain (f : FuncId) (fn : Func) (hf : Tryz.pinned.checked.prog.funcNamed "gusset/gussetlaw16.SparsesDense" = some f) (hfn : Tryz.pinned.checked.prog.funcs[f]? = some fn) :
    false = Tryz.pinned.checked.prog.looks [] ∧ ∀ (j : Nat) t, fn.params[j]? = some t → Tryz.pinned.checked.prog.wantsStandIn t = false := by
  obtain rfl : f = 8 := Option.some.inj ((show Tryz.prog.funcNamed "gusset/gussetlaw16.SparsesDense" = some 8 by kernel_rfl).symm.trans hf) |>.symm
  obtain rfl : fn = Tryz.f8 := (Option.some.inj (Tryz.func8.symm.trans hfn)).symm
  refine ⟨by kernel_rfl, fun j t ht => ?_⟩
  have hm := Array.mem_of_getElem? ht
  rw [Tryz.params8] at hm
  simp only [List.mem_toArray, List.mem_cons, List.not_mem_nil, or_false] at hm
  rcases hm with rfl | rfl | rfl | rfl | rfl
  · exact (show Tryz.prog.wantsStandIn 35 = false by kernel_rfl)
  · exact (show Tryz.prog.wantsStandIn 74 = false by kernel_rfl)
  · exact (show Tryz.prog.wantsStandIn 74 = false by kernel_rfl)
  · exact (show Tryz.prog.wantsStandIn 72 = false by kernel_rfl)
  · exact (show Tryz.prog.wantsStandIn 72 = false by kernel_rfl)
end Den
/-- the card -/
theorem dense_card : Rows.SparsesDenseCardSaid :=
  Claim7.holds_tied_plain_at .later [] _ _ _ _ Den.said (fun _ h => by cases h) (by kernel_rfl) (fun _ h => by cases h) sparsesDense_row_tie rfl ⟨rfl, rfl⟩ (by kernel_rfl) rfl Den.plain (by kernel_rfl)
end Go.Proofs.YtjiobckoldnonaaGreatDoor
end
