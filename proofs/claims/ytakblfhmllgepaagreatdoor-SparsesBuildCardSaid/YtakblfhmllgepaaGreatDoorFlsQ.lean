/- Proved here: parts of the proof: Fls Bde Bdw. Conditions: those that each theorem states. -/
import Derived.Test.YtakblfhmllgepaaGreatDoorFlowQ
import Derived.Test.YtakblfhmllgepaaGreatDoorPrtBQ
import Derived.Test.YtakblfhmllgepaaGreatDoorRowQ
import Derived.Test.YtakblfhmllgepaaGreatDoorRebQ
import Derived.Test.YtakblfhmllgepaaGreatDoorCntQ
import Derived.Test.YtakblfhmllgepaaGreatDoorSmaQ
import Derived.Test.YtakblfhmllgepaaGreatDoorFlowCQ
import Derived.Test.YtakblfhmllgepaaGreatDoorRfpQ
section
/- The flow of a drawn region where an append writes into the row that an earlier append has made (printed by genfls.py out of XFlow, XFlowB). -/
namespace Gus.FlS
open Go Go.RowKit Go.Proofs
/-- the new rows (type T, blocks from B0 on) that may be written, behind their first m cells, by the cells tk -/
class Par where
  B0 : Nat
  T : TypeId
  m : Nat
  tk : List Value
theorem take_m {m t : Nat} {x y : List Value} {k : List Value} (hl : k.length = t) (hm : m + t ≤ x.length) (h : y.take (m + t) = x.take m ++ k) : y.take m = x.take m := by
  have e := congrArg (List.take m) h
  rw [List.take_take, Nat.min_eq_left (by omega), List.take_append_of_le_length (by rw [List.length_take]; omega), List.take_take, Nat.min_self] at e
  exact e
section
variable [Par]
def Over (k : Nat) (w w' : World) : Prop := Par.B0 ≤ k ∧ ∃ cur cur' fz, w.heap[k]? = some (.cells cur Par.T fz) ∧ w'.heap[k]? = some (.cells cur' Par.T fz) ∧ Par.m + Par.tk.length ≤ cur.size ∧ cur'.size = cur.size ∧ cur'.toList.take (Par.m + Par.tk.length) = cur.toList.take Par.m ++ Par.tk
/-- a later world: what was there stands, but for such rows -/
structure St (w w' : World) : Prop where
  os : w'.os = w.os
  tape : w'.tape = w.tape
  output : w'.output = w.output
  size : w.heap.size ≤ w'.heap.size
  block : ∀ k, k < w.heap.size → w'.heap[k]? = w.heap[k]? ∨ Over k w w'
theorem St.of_below {w w' : World} (h : Below w.heap.size w w') : St w w' := ⟨h.os, h.tape, h.output, h.size, fun k hk => .inl (h.block k hk)⟩
theorem St.refl (w : World) : St w w := .of_below (Below.refl _ _)
theorem St.trans {a b c : World} (h : St a b) (k : St b c) : St a c :=
  ⟨k.os.trans h.os, k.tape.trans h.tape, k.output.trans h.output, Nat.le_trans h.size k.size, fun i hi => by
    rcases h.block i hi with e | ⟨h0, cur, cur', fz, h1, h2, h3, h4, h5⟩
    · rcases k.block i (Nat.lt_of_lt_of_le hi h.size) with e2 | ⟨g0, cu, cu', fz, g1, g2, g3, g4, g5⟩
      · exact .inl (e2.trans e)
      · exact .inr ⟨g0, cu, cu', fz, e ▸ g1, g2, g3, g4, g5⟩
    · rcases k.block i (Nat.lt_of_lt_of_le hi h.size) with e2 | ⟨g0, cu, cu', fy, g1, g2, g3, g4, g5⟩
      · exact .inr ⟨h0, cur, cur', fz, h1, e2.trans h2, h3, h4, h5⟩
      · rw [h2] at g1
        simp only [Option.some.injEq, Obj.cells.injEq, true_and] at g1
        obtain ⟨rfl, rfl⟩ := g1
        refine .inr ⟨h0, cur, cu', fz, h1, g2, h3, g4.trans h4, ?_⟩
        rw [g5, take_m rfl (by simpa using h3) h5]⟩
theorem St.ins {w w' : World} (h : St w w') (hB : w.heap.size ≤ Par.B0 := by assumption) : In w.heap.size w w' :=
  ⟨⟨h.os, h.tape, h.output, h.size, fun k hk => by
    rcases h.block k hk with e | ⟨h0, _⟩
    · exact e
    · omega⟩, h.size⟩
theorem St.cell {w w' : World} (h : St w w') (hB : w.heap.size ≤ Par.B0 := by assumption) : ∀ b o, b < w.heap.size → w'.cell? ⟨b, o, none⟩ = w.cell? ⟨b, o, none⟩ := fun b o hb => (h.ins hB).cell b o hb
theorem St.frozen {w w' : World} (h : St w w') (hB : w.heap.size ≤ Par.B0 := by assumption) : ∀ b o, b < w.heap.size → w'.frozen? ⟨b, o, none⟩ = w.frozen? ⟨b, o, none⟩ := fun b o hb => (h.ins hB).frozen b o hb
theorem St.other {w w' : World} (h : St w w') {k : Nat} {cur : Array Value} {T : TypeId} {fz : Nat × Nat} (hk : w.heap[k]? = some (.cells cur T fz)) (hT : T ≠ Par.T) : w'.heap[k]? = w.heap[k]? := by
  rcases h.block k (Array.getElem?_eq_some_iff.1 hk).1 with e | ⟨_, cu, _, fy, h1, _⟩
  · exact e
  · rw [hk] at h1
    simp only [Option.some.injEq, Obj.cells.injEq] at h1
    exact absurd h1.2.1 hT
theorem Bx.st {w w' : World} {S : Nat} {T : TypeId} {cs : List Value} (h : Bx w S T cs) (hs : St w w') (hT : T ≠ Par.T) : Bx w' S T cs := by
  have h1 : w.heap[S]? = some (Obj.cells cs.toArray T (0, 0)) := h
  exact (hs.other h1 hT).trans h1
/-- a row that keeps its first cells -/
theorem own_head {w w' : World} {lo size n : Nat} {v : Value} {xs : List Value} (h : w.ownsRow lo Par.T size v n xs) (hs : St w w') (hn : n * size = Par.m) : w'.ownsRow lo Par.T size v n xs := by
  refine ⟨h.1, ?_⟩
  rcases h.2 with h2 | ⟨g, cap, cur, rfl, h0, hg, h3, h4, h5, h6⟩
  · exact .inl h2
  · rcases hs.block g (Array.getElem?_eq_some_iff.1 hg).1 with e | ⟨_, cu, cu', fz, g1, g2, g3, g4, g5⟩
    · exact .inr ⟨g, cap, cur, rfl, h0, e.trans hg, h3, h4, h5, h6⟩
    · rw [hg] at g1
      simp only [Option.some.injEq, Obj.cells.injEq, true_and] at g1
      obtain ⟨rfl, rfl⟩ := g1
      exact .inr ⟨g, cap, cu', rfl, h0, g2, h3, h4, g4.trans h5, by rw [hn, take_m rfl (by simpa using g3) g5, ← hn]; exact h6⟩
/-- a row that has been written -/
theorem own_done {w w' : World} {lo size n : Nat} {v : Value} {xs : List Value} (h : w.ownsRow lo Par.T size v n (xs ++ Par.tk)) (hs : St w w') (hx : xs.length = Par.m) : w'.ownsRow lo Par.T size v n (xs ++ Par.tk) := by
  refine ⟨h.1, ?_⟩
  have hl := h.1
  rw [List.length_append, hx] at hl
  rcases h.2 with h2 | ⟨g, cap, cur, rfl, h0, hg, h3, h4, h5, h6⟩
  · exact .inl h2
  · rcases hs.block g (Array.getElem?_eq_some_iff.1 hg).1 with e | ⟨_, cu, cu', fz, g1, g2, g3, g4, g5⟩
    · exact .inr ⟨g, cap, cur, rfl, h0, e.trans hg, h3, h4, h5, h6⟩
    · rw [hg] at g1
      simp only [Option.some.injEq, Obj.cells.injEq, true_and] at g1
      obtain ⟨rfl, rfl⟩ := g1
      refine .inr ⟨g, cap, cu', rfl, h0, g2, h3, h4, g4.trans h5, ?_⟩
      rw [← hl, g5]
      have e := congrArg (List.take Par.m) h6
      rw [List.take_take, Nat.min_eq_left (by omega), ← hx, List.take_left, hx] at e
      rw [e]
theorem SpOwn.st {w w' : World} {lo : Nat} {v : Value} {r c : Nat} {Ls : Nat → List Ent} (h : SpOwn w lo v r c Ls) (hs : St w w') (h1 : 95 ≠ Par.T) (h2 : 97 ≠ Par.T) : SpOwn w' lo v r c Ls := by
  obtain ⟨R, vs, rfl, h3, h4, h5⟩ := h
  refine ⟨R, vs, rfl, h3, Bx.st h4 hs h1, h5.of_block fun i k hi hk => ?_⟩
  rcases h5.row i hi with ⟨e, _⟩ | ⟨g, cap, cur, e, h0, hg, _⟩
  · rw [e] at hk; simp [Value.ownBlock] at hk
  · rw [e] at hk
    simp [Value.ownBlock] at hk
    subst hk
    exact hs.other hg h2
/-- an append onto such a row -/
theorem append_over {P : Program} {w : World} {t ty : TypeId} {i : TypeInfo} {z v : Value} {size bytes lo n : Nat} {xs : List Value} (ht : P.underlying t = some (.slice Par.T)) (hi : P.info? Par.T = some i) (hz : i.zero = some z) (hsize : i.size = size) (hby : i.bytes = bytes) (hzs : z.cells.size = size) (hsz : 0 < size)
    (hown : w.ownsRow lo Par.T size v n xs) (hn0 : 0 < n) (hlo : Par.B0 ≤ lo) (hn : n * size = Par.m) (a : Addr) (m c : Nat) (hl : Par.tk.length = m * size) (hnews : ∀ j u, Par.tk[j]? = some u → w.cell? (a.add j) = some u) (h1 : ∀ u ∈ Par.tk, u.oneCell' = true)
    (h63 : n + m ≤ maxLen) (hbytes : (n + m) * bytes ≤ 140737488355328) (hbase : lo ≤ w.heap.size) :
    ∃ v' w', (Builtin.append_ #[t, t] ty #[v, .slice (some a) m c]).run P w = .ok v' w' ∧ w'.ownsRow lo Par.T size v' (n + m) (xs ++ Par.tk) ∧ St w w' := by
  have hlen : (xs ++ Par.tk).length = (n + m) * size := by rw [List.length_append, hown.1, hl, Nat.add_mul]
  rcases hown.2 with ⟨_, h⟩ | ⟨g, cap, cur, rfl, hbg, hg, hnc, hcm, hcs, htake⟩
  · omega
  · by_cases hroom : n + m ≤ cap
    · subst hsize
      have hfit : n * i.size + (Par.tk).length ≤ cur.size := by rw [hl, hcs, ← Nat.add_mul]; exact Nat.mul_le_mul_right _ hroom
      have hr := run_append_room (P := P) w t ty Par.T i ht hi g n cap cur hg a m c Par.tk hl hnews h1 hroom hfit
      have hT : (cur.toList.take (n * i.size) ++ Par.tk ++ cur.toList.drop (n * i.size + (Par.tk).length)).take (n * i.size + (Par.tk).length) = cur.toList.take (n * i.size) ++ Par.tk := by
        have e : (cur.toList.take (n * i.size) ++ Par.tk).length = n * i.size + (Par.tk).length := by
          rw [List.length_append, List.length_take, Array.length_toList]; omega
        rw [← e]; exact List.take_left
      have hsz2 : (cur.toList.take (n * i.size) ++ Par.tk ++ cur.toList.drop (n * i.size + (Par.tk).length)).length = cur.size := by
        simp only [List.length_append, List.length_take, List.length_drop, Array.length_toList]
        omega
      refine ⟨_, _, hr, ⟨hlen, .inr ⟨g, cap, _, rfl, hbg, setRow_heap w g cur _ Par.T _ hg, hroom, hcm, by simpa using hsz2.trans hcs, ?_⟩⟩, ⟨rfl, rfl, rfl, by simp, fun k hk => ?_⟩⟩
      · show List.take _ _ = _
        rw [← hlen, List.length_append, hown.1]
        refine hT.trans ?_
        rw [htake]
      · by_cases hkg : k = g
        · subst hkg
          refine .inr ⟨Nat.le_trans hlo hbg, cur, _, (0, 0), hg, setRow_heap w k cur _ Par.T _ hg, by rw [← hn]; exact hfit, by simpa using hsz2, ?_⟩
          rw [← hn]
          exact hT
        · exact .inl (setRow_other w g k _ hkg)
    · obtain ⟨v', w', hr, ho, hgr⟩ := run_append_arg_grows (P := P) w t ty Par.T i z size bytes ht hi hz hsize hby hzs hsz ⟨g, 0, none⟩ n cap xs hown.1 (hown.cells (g := g) rfl) a m c Par.tk hl hnews (by omega) h63 hbytes
      refine ⟨v', w', hr, ⟨ho.1, ?_⟩, ⟨hgr.os, hgr.tape, hgr.output, hgr.size, fun k hk => .inl (hgr.block k hk (by simp))⟩⟩
      rcases ho.2 with h | ⟨g2, c2, cu2, h2, h3, h4⟩
      · exact .inl h
      · exact .inr ⟨g2, c2, cu2, h2, Nat.le_trans hbase h3, h4⟩
section
variable {P : Program} {ops : Array Oper} {w0 : World}
def okUpon (P : Program) (V : Value → World → Prop) (w : World) : Result Next → Prop
  | .ok (.value v) w' => V v w' ∧ St w w'
  | .ok .skip w' => V undef w' ∧ St w w'
  | .ok (.enter f args) w' => Calls P f args w' fun e w'' => ∃ v, e = .returned v ∧ V v w'' ∧ St w w''
  | _ => False
def okOp (P : Program) (ops : Array Oper) (o : Oper) (a : Act) (w : World) (V : Value → World → Prop) : Prop :=
  if Region.wanted o (yielded ops a.tmps) = true then okUpon P V w ((execOp a.eval o).run P w) else V undef w
theorem wpOp_of_ok {Q : Exit → Act → World → Prop} {i : Nat} {o : Oper} {a : Act} {w : World} {V : Value → World → Prop} {K : Act → World → Prop} (hi : ops[i]? = some o) (h : okOp P ops o a w V)
    (hK : ∀ v w', V v w' → St w w' → K (a.put o.dst v) w') : wpOp P ops Q i K a w := by
  unfold wpOp
  simp only [hi]
  unfold okOp at h
  split
  · rename_i hw
    rw [if_pos hw] at h
    refine .inl ?_
    unfold Oper.wp
    generalize (execOp a.eval o).run P w = r at *
    cases r with
    | ok n w' =>
      cases n <;> simp only [okUpon] at h <;> simp only [Oper.upon]
      case value v => exact hK v w' h.1 h.2
      case skip => exact hK undef w' h.1 h.2
      case enter f args => exact h.mono fun e w'' ⟨v, he, hv, hs⟩ => by subst he; exact hK v w'' hv hs
    | halt x w' => simp only [okUpon] at h
  · rename_i hw
    rw [if_neg hw] at h
    exact hK undef w h (St.refl w)
def Stable (V : Value → World → Prop) : Prop := ∀ v w w', V v w → St w w' → V v w'
def flow (P : Program) (ops : Array Oper) (w0 : World) (A : (Nat → Value) → Act) (T : Act → World → Prop) : Nat → List Oper → (Nat → (Nat → Value) → Value → World → Prop) → (Nat → Bool) → Prop
  | i, [], V, Φ => ∀ u w, St w0 w → allH V u w i → dist Φ u i → T (A u) w
  | i, o :: os, V, Φ => ∃ Vi φ, (∀ u, Stable (Vi u)) ∧ (∀ u, Placed φ (Vi u)) ∧ LocalU o Vi ∧ (∀ u w, St w0 w → depH V u w o.after.toList → okOp P ops o (A u) w (Fresh φ (Vi u) w)) ∧
    (fl o = true → φ = false ∧ ∀ u w, St w0 w → depH V u w o.after.toList → ∃ v, (∀ w2, (execOp (A u).eval o).run P w2 = .ok (.value v) w2) ∧ ∀ w2, Vi u v w2) ∧ flow P ops w0 A T (i + 1) os (extU V i Vi) (extB Φ i φ)
theorem flow_spec {A : (Nat → Value) → Act} {T : Act → World → Prop} : ∀ (os : List Oper) (i : Nat) (V : Nat → (Nat → Value) → Value → World → Prop) (Φ : Nat → Bool), flow P ops w0 A T i os V Φ → ∃ (V' : Nat → (Nat → Value) → Value → World → Prop) (Φ' : Nat → Bool), (∀ j, j < i → V' j = V j) ∧ (∀ j, j < i → Φ' j = Φ j) ∧ (∀ j, i ≤ j → j < i + os.length → (∀ u, Stable (V' j u)) ∧ (∀ u, Placed (Φ' j) (V' j u))) ∧
    (∀ j o, os[j]? = some o → LocalU o (V' (i + j)) ∧ ((∀ e ∈ o.after.toList, Region.binds .any e = true → e.on < i + j) → ∀ u w, St w0 w → (∀ e ∈ o.after.toList, Region.binds .any e = true → V' e.on u (u e.on) w) → okOp P ops o (A u) w (Fresh (Φ' (i + j)) (V' (i + j) u) w) ∧
      (fl o = true → Φ' (i + j) = false ∧ ∃ v, (∀ w2, (execOp (A u).eval o).run P w2 = .ok (.value v) w2) ∧ ∀ w2, V' (i + j) u v w2))) ∧
    (∀ u w, St w0 w → allH V' u w (i + os.length) → dist Φ' u (i + os.length) → T (A u) w)
  | [], i, V, Φ, h => ⟨V, Φ, fun _ _ => rfl, fun _ _ => rfl, fun j h1 h2 => by simp at h2; omega, fun j o hj => by simp at hj, h⟩
  | o :: os, i, V, Φ, h => by
    obtain ⟨Vi, φ, hst, hpl, hlo, hop, hfl, hk⟩ := h
    obtain ⟨V', Φ', h1, h1', h2, h3, h4⟩ := flow_spec os (i + 1) _ _ hk
    have hVi : V' i = Vi := by rw [h1 i (by omega)]; unfold extU; funext u; rw [if_pos rfl]
    have hΦi : Φ' i = φ := by rw [h1' i (by omega)]; unfold extB; rw [if_pos rfl]
    have hVj : ∀ j, j < i → V' j = V j := fun j hj => by rw [h1 j (by omega)]; unfold extU; funext u; rw [if_neg (by omega)]
    have hΦj : ∀ j, j < i → Φ' j = Φ j := fun j hj => by rw [h1' j (by omega)]; unfold extB; rw [if_neg (by omega)]
    have hl : i + 1 + os.length = i + (o :: os).length := by rw [List.length_cons]; omega
    refine ⟨V', Φ', hVj, hΦj, fun j hj1 hj2 => ?_, fun j o' hj => ?_, fun u w hw ha hdi => h4 u w hw (by rw [hl]; exact ha) (by rw [hl]; exact hdi)⟩
    · by_cases hji : j = i
      · rw [hji, hVi, hΦi]; exact ⟨hst, hpl⟩
      · exact h2 j (by omega) (by rw [List.length_cons] at hj2; omega)
    · cases j with
      | zero =>
        obtain rfl : o = o' := by simpa using hj
        rw [Nat.add_zero, hVi, hΦi]
        refine ⟨hlo, fun hon u w hw hd => ?_⟩
        have hdep : depH V u w o.after.toList := depH_of _ fun e he hb => by
          have := hd e he hb
          rwa [hVj _ (hon e he hb)] at this
        exact ⟨hop u w hw hdep, fun hf => ⟨(hfl hf).1, (hfl hf).2 u w hw hdep⟩⟩
      | succ j =>
        have h5 := h3 j o' (by simpa using hj)
        rw [show i + 1 + j = i + (j + 1) by omega] at h5
        exact h5
theorem wpAny_of_flow {n : Nat} {Q : Exit → Act → World → Prop} {A : (Nat → Value) → Act} {a0 : Act} {V : Nat → (Nat → Value) → Value → World → Prop} {Φ : Nat → Bool} (hB : flowB ops n = true) (hA : ∀ u, A u = putAll u 0 (ops.toList.take n) a0)
    (hQ : ∀ c a d v w, Q (.panic c) (Act.put a d v) w → Q (.panic c) a w)
    (hst : ∀ j, j < n → (∀ u, Stable (V j u)) ∧ (∀ u, Placed (Φ j) (V j u))) (hlo : ∀ j o, j < n → ops[j]? = some o → LocalU o (V j)) (hop : ∀ j o, j < n → ops[j]? = some o → ∀ u w, St w0 w → (∀ e ∈ o.after.toList, Region.binds .any e = true → V e.on u (u e.on) w) → okOp P ops o (A u) w (Fresh (Φ j) (V j u) w) ∧
      (fl o = true → Φ j = false ∧ ∃ v, (∀ w2, (execOp (A u).eval o).run P w2 = .ok (.value v) w2) ∧ ∀ w2, V j u v w2))
    (hT : ∀ u w, St w0 w → (∀ j, j < n → V j u (u j) w) → dist Φ u n → wpList P ops Q (ops.toList.drop n) (A u) w) :
    ∀ (c : Nat) (listed : Array Bool) (u : Nat → Value) (w : World), HeadInv .any ops n listed → cnt listed n = c → St w0 w → (∀ j, j < n → listed.getD j true = true → V j u (u j) w) →
      (∀ i j, i < n → j < n → i ≠ j → listed.getD i true = true → listed.getD j true = true → Φ i = true → Φ j = true → ∀ b, blk (u i) = some b → blk (u j) ≠ some b) → wpAny P .any ops Q (c + (ops.size - n)) listed (A u) w := by
  simp only [flowB, Bool.and_eq_true, decide_eq_true_eq] at hB
  obtain ⟨⟨⟨⟨⟨⟨hn, hs⟩, hc⟩, hb⟩, hnd⟩, hseq⟩, hsel⟩ := hB
  have hback : ∀ i o e, i < n → ops[i]? = some o → e ∈ o.after.toList → Region.binds .any e = true → e.on < i := fun i o e hi ho he hbd => by
    have h1 := List.all_eq_true.1 hb i (List.mem_range.2 hi)
    rw [ho] at h1
    have h2 := List.all_eq_true.1 h1 e he
    rw [hbd] at h2
    simpa using h2
  intro c
  induction c with
  | zero =>
    intro listed u w inv hcn hw hv hdi
    have hall := cnt_zero n hcn
    have hl : listed = firstN n ops.size := by
      apply Array.ext
      · simp [firstN, inv.size]
      · intro i h1 h2
        simp only [firstN, List.getElem_toArray, List.getElem_map, List.getElem_range]
        by_cases hi : i < n
        · have := hall i hi
          rw [Array.getD_eq_getD_getElem?, Array.getElem?_eq_getElem h1] at this
          simpa [hi] using this
        · have := getD_both (inv.tail i (by omega) (by rw [inv.size] at h1; exact h1))
          rw [Array.getD_eq_getD_getElem?, Array.getElem?_eq_getElem h1] at this
          simpa [hi] using this
    subst hl
    rw [Nat.zero_add]
    have hdl : (ops.toList.drop n).length = ops.size - n := by simp
    have := wpAny_of_seq (P := P) (Q' := Q) (ops.toList.drop n) n (firstN n ops.size) (A u) w (fun j => by simp [List.getElem?_drop]) (by rw [hdl]; exact hseq) (hT u w hw (fun j hj => hv j hj (hall j hj)) (fun i j hi hj hne => hdi i j hi hj hne (hall i hi) (hall j hj)))
    rwa [hdl] at this
  | succ c ih =>
    intro listed u w inv hcn hw hv hdi
    rw [show c + 1 + (ops.size - n) = (c + (ops.size - n)) + 1 by omega]
    obtain ⟨i0, hi0, hun0, hmin⟩ := cnt_pos n (by omega : 0 < cnt listed n)
    have hls : ∀ j, j < n → listed.getD j true = true → listed.getD j false = true := fun j hj h => by
      have hjs : j < listed.size := by rw [inv.size]; omega
      simp [hjs] at h ⊢; exact h
    have hlt : ∀ j, j < n → listed.getD j false = true → listed.getD j true = true := fun j hj h => by
      have hjs : j < listed.size := by rw [inv.size]; omega
      simp [hjs] at h ⊢; exact h
    have hi0s : i0 < ops.size := by omega
    have ho0 : ops[i0]? = some ops[i0] := by simp [hi0s]
    have hr0 : i0 ∈ Region.ready .any ops listed :=
      mem_ready.2 ⟨hun0, ops[i0], ho0, fun e he hbd => by
        have h3 := hback i0 _ e hi0 ho0 (by simpa using he) hbd
        exact hls _ (by omega) (hmin _ h3)⟩
    have key : ∀ i o v w', i < n → ops[i]? = some o → i ∈ Region.ready .any ops listed → Fresh (Φ i) (V i u) w v w' → St w w' → wpAny P .any ops Q (c + (ops.size - n)) (listed.setIfInBounds i true) ((A u).put o.dst v) w' := fun i o v w' hin ho hi hV hs' => by
      obtain ⟨hiun, _, _, _⟩ := mem_ready.1 hi
      have hAu : (A u).put o.dst v = A (upd u i v) := by
        rw [hA, hA]
        have := putAll_upd (u := u) (v := v) (ops.toList.take n) 0 i a0 o hnd (by rw [List.getElem?_take, if_pos hin]; simpa using ho)
        rw [Nat.zero_add] at this
        exact this.symm
      rw [hAu]
      have his : i < listed.size := by rw [inv.size]; omega
      have hagree : ∀ j oj, j < n → ops[j]? = some oj → (j = i ∨ listed.getD j true = true) → ∀ e ∈ oj.after.toList, Region.binds .any e = true → u e.on = upd u i v e.on := fun j oj hj hoj hjl e he hbd => by
        have hlt' := hback j oj e hj hoj he hbd
        have hne : e.on ≠ i := fun h => by
          rcases hjl with rfl | hjl
          · omega
          · have h2 := inv.closed j oj hoj (hls j hj hjl) e (by simpa using he) hbd
            rw [h, getD_both hiun] at h2; cases h2
        unfold upd
        rw [if_neg hne]
      refine ih _ _ _ (inv.set hi hin) ?_ (hw.trans hs') (fun j hj hl => ?_) (fun i1 j1 hi1 hj1 hne hl1 hl2 hf1 hf2 b hb1 => ?_)
      · have := cnt_set hiun his n
        rw [if_pos hin] at this; omega
      · have hjs : j < ops.size := by omega
        have hoj : ops[j]? = some ops[j] := by simp [hjs]
        by_cases hji : j = i
        · subst hji
          refine hlo j _ hj hoj u _ _ _ (hagree j _ hj hoj (.inl rfl)) ?_
          unfold upd
          rw [if_pos rfl]; exact hV.1
        · rw [getD_set_ne true (fun h => hji h.symm)] at hl
          refine hlo j _ hj hoj u _ _ _ (hagree j _ hj hoj (.inr hl)) ?_
          unfold upd
          rw [if_neg hji]
          exact (hst j hj).1 u _ _ _ (hv j hj hl) hs'
      · unfold upd at hb1 ⊢
        by_cases h1 : i1 = i
        · have h2 : ¬ j1 = i := fun h => hne (h1.trans h.symm)
          rw [if_pos h1] at hb1
          rw [if_neg h2]
          intro hb2
          rw [getD_set_ne true (fun h => h2 h.symm)] at hl2
          have h3 := (hst j1 hj1).2 u hf2 _ _ (hv j1 hj1 hl2) b hb2
          have h4 := hV.2 (by rw [← h1]; exact hf1) b hb1
          omega
        · rw [if_neg h1] at hb1
          rw [getD_set_ne true (fun h => h1 h.symm)] at hl1
          by_cases h2 : j1 = i
          · rw [if_pos h2]
            intro hb2
            have h3 := (hst i1 hi1).2 u hf1 _ _ (hv i1 hi1 hl1) b hb1
            have h4 := hV.2 (by rw [← h2]; exact hf2) b hb2
            omega
          · rw [if_neg h2]
            rw [getD_set_ne true (fun h => h2 h.symm)] at hl2
            exact hdi i1 j1 hi1 hj1 hne hl1 hl2 hf1 hf2 b hb1
    have hdep : ∀ i o, i < n → ops[i]? = some o → i ∈ Region.ready .any ops listed → ∀ e ∈ o.after.toList, Region.binds .any e = true → V e.on u (u e.on) w := fun i o hin ho hi e he hbd => by
      obtain ⟨_, o', ho', hall⟩ := mem_ready.1 hi
      have : o' = o := Option.some.inj (ho'.symm.trans ho)
      subst this
      have h3 := hback i _ e hin ho he hbd
      exact hv _ (by omega) (hlt _ (by omega) (hall e (by simpa using he) hbd))
    cases hF : isF ops i0 with
    | true =>
      unfold isF at hF
      rw [ho0] at hF
      simp only [Bool.and_eq_true] at hF
      obtain ⟨hfl, hap⟩ := hF
      obtain ⟨hΦ0, v, hv1, hv2⟩ := (hop i0 _ hi0 ho0 u w hw (hdep i0 _ hi0 ho0 hr0)).2 hfl
      have hg : (ops[i0]).guard = none := by
        unfold fl at hfl
        rw [Bool.and_eq_true] at hfl
        exact Option.isNone_iff_eq_none.1 hfl.1
      refine wpAny_first (oi := ops[i0]) (v := v) ho0 (Region.noSelect_spec hsel) (fun c a w h => hQ c a _ v w h) _ listed _ w (fun j oj hj hne hun hno => ?_) hr0 (.inl ⟨by unfold Region.wanted; rw [hg], hv1⟩) (key i0 _ v w hi0 ho0 hr0 ⟨hv2 w, fun h => absurd h (by rw [hΦ0]; exact Bool.false_ne_true)⟩ (St.refl w))
      have hjs : j < ops.size := (Array.getElem?_eq_some_iff.1 hj).1
      have h1 := List.all_eq_true.1 hap j (List.mem_range.2 hjs)
      rw [hj] at h1
      simp only [Bool.or_eq_true, beq_iff_eq] at h1
      rcases h1 with ((h1 | h1) | h1) | h1
      · exact absurd h1 hne
      · obtain ⟨oj', hoj', e, he, hbd, hon⟩ := Region.waitsFor_spec h1
        have : oj' = oj := Option.some.inj (hoj'.symm.trans hj)
        subst this
        exact absurd hon (hno e he hbd)
      · obtain ⟨o', ho', e, he, hbd, hon⟩ := Region.waitsFor_spec h1
        obtain ⟨_, o'', ho'', hall⟩ := mem_ready.1 hr0
        have : o' = o'' := Option.some.inj (ho'.symm.trans ho'')
        subst this
        have h2 := hall e he hbd
        rw [hon, getD_both hun] at h2; cases h2
      · exact h1
    | false =>
      refine ⟨(fun h0 => by rw [h0] at hr0; cases hr0), fun i hi => ?_⟩
      have hin : i < n := by
        rcases Nat.lt_or_ge i n with h | h
        · exact h
        · exact absurd hi (tail_waitsF hs hc hn inv _ i0 rfl hi0 hF hun0 i h)
      obtain ⟨_, o, ho, _⟩ := mem_ready.1 hi
      exact wpOp_of_ok ho (hop i o hin ho u w hw (hdep i o hin ho hi)).1 fun v w' hV hs' => key i o v w' hin ho hi hV hs'
theorem wp_region_flow {id : Nat} {Q : Exit → Act → World → Prop} {a0 : Act} {l : List Oper} (n : Nat) (hm : P.follows .mixedOrders = true) (hB : flowB l.toArray n = true) (hQ : ∀ c a d v w, Q (.panic c) (Act.put a d v) w → Q (.panic c) a w)
    (h : flow P l.toArray w0 (fun u => putAll u 0 (l.take n) a0) (fun a w => wpList P l.toArray Q (l.drop n) a w) 0 (l.take n) (fun _ _ _ _ => True) (fun _ => false)) : (Code.region id l.toArray true).wp P Q a0 w0 := by
  obtain ⟨V, Φ, _, _, h2, h3, h4⟩ := flow_spec _ _ _ _ h
  have hB' := hB
  simp only [flowB, Bool.and_eq_true, decide_eq_true_eq] at hB'
  obtain ⟨⟨⟨⟨⟨⟨hn, hs⟩, hc⟩, hb⟩, hnd⟩, hseq⟩, hsel⟩ := hB'
  have hn' : n < l.length := by simpa using hn
  have htl : (l.take n).length = n := by simp; omega
  rw [htl, Nat.zero_add] at h2 h4
  refine wp_region_any hm ?_
  obtain ⟨u, hu⟩ := putAll_start (l.take n) 0 a0
  have key := wpAny_of_flow (P := P) (ops := l.toArray) (w0 := w0) (n := n) (Q := Q) (A := fun u => putAll u 0 (l.take n) a0) (a0 := a0) (V := V) (Φ := Φ) hB (fun u => rfl) hQ (fun j hj => h2 j (Nat.zero_le _) hj)
    (fun j o hj ho => by
      have h5 := (h3 j o (by rw [List.getElem?_take, if_pos hj]; simpa using ho)).1
      rwa [Nat.zero_add] at h5)
    (fun j o hj ho u w hw hd => by
      have h5 := (h3 j o (by rw [List.getElem?_take, if_pos hj]; simpa using ho)).2 (fun e he hbd => by
        have h1 := List.all_eq_true.1 hb j (List.mem_range.2 hj)
        rw [ho] at h1
        have h2 := List.all_eq_true.1 h1 e he
        rw [hbd] at h2
        simpa using h2) u w hw hd
      rwa [Nat.zero_add] at h5)
    (fun u w hw ha hdi => h4 u w hw (allH_of n ha) hdi) (cnt (Array.replicate l.toArray.size false) n) (Array.replicate l.toArray.size false) u { w0 with drawn := w0.drawn + 1 }
    ⟨by simp, fun j oj _ hl => (by rw [getD_replicate_false] at hl; cases hl), fun t _ ht => getD_in (by simpa using ht) (getD_replicate_false _ _)⟩ rfl (.of_below ((Below.refl _ _).drew))
    (fun j hj hl => by
      have hjs : j < (Array.replicate l.toArray.size false).size := by rw [Array.size_replicate]; omega
      rw [getD_in hjs (getD_replicate_false _ _)] at hl; cases hl)
    (fun i j hi hj hne hl1 => by
      have hjs : i < (Array.replicate l.toArray.size false).size := by rw [Array.size_replicate]; omega
      rw [getD_in hjs (getD_replicate_false _ _)] at hl1; cases hl1)
  have hcn : cnt (Array.replicate l.toArray.size false) n = n := by
    have : ∀ k, k ≤ l.toArray.size → cnt (Array.replicate l.toArray.size false) k = k := by
      intro k
      induction k with
      | zero => intro _; rfl
      | succ k ih =>
        intro hk
        unfold cnt
        rw [ih (by omega), getD_in (by rw [Array.size_replicate]; omega) (getD_replicate_false _ _)]; rfl
    exact this n (by omega)
  rw [hcn] at key
  rw [show n + (l.toArray.size - n) = l.toArray.size by omega] at key
  simp only [hu] at key
  exact key
end
section
variable {P : Program} {ops : Array Oper} {w0 : World} {A : (Nat → Value) → Act} {T : Act → World → Prop} {i : Nat} {o : Oper} {os : List Oper} {V : Nat → (Nat → Value) → Value → World → Prop}
theorem okUpon_of_quiet {w : World} {v : Value} {r : Result Next} (h : Oper.quietUpon P (St w) w v r) : okUpon P (fun x _ => x = v) w r := by
  cases r with
  | ok n w' =>
    cases n <;> simp only [Oper.quietUpon] at h <;> simp only [okUpon]
    case value u => obtain ⟨rfl, rfl⟩ := h; exact ⟨rfl, St.refl _⟩
    case skip => obtain ⟨rfl, rfl⟩ := h; exact ⟨rfl, St.refl _⟩
    case enter f args =>
      obtain ⟨rfl, hc⟩ := h
      exact hc.mono fun e w'' ⟨he, hs⟩ => ⟨v, he, rfl, hs⟩
  | halt x w' => simp only [Oper.quietUpon] at h
theorem stable_eq (v : Value) : Stable (fun x _ => x = v) := fun _ _ _ h _ => h
theorem okFresh {w : World} {v : Value} {r : Result Next} (h : okUpon P (fun x _ => x = v) w r) : okUpon P (Fresh false (fun x _ => x = v) w) w r := by
  cases r with
  | ok n w' =>
    cases n <;> simp only [okUpon] at h ⊢
    case value u => exact ⟨⟨h.1, fun h => by cases h⟩, h.2⟩
    case skip => exact ⟨⟨h.1, fun h => by cases h⟩, h.2⟩
    case enter f args => exact h.mono fun e w'' ⟨v, he, hv, hs⟩ => ⟨v, he, ⟨hv, fun h => by cases h⟩, hs⟩
  | halt x w' => simp only [okUpon] at h
variable {Φ : Nat → Bool}
theorem flow_pure0 {v : Value} (hg : o.guard = none) (hf : fl o = false) (h : ∀ u w, St w0 w → depH V u w o.after.toList → o.quietAt P (A u) (St w) w v)
    (k : flow P ops w0 A T (i + 1) os (ext V i fun x _ => x = v) (extB Φ i false)) : flow P ops w0 A T i (o :: os) V Φ :=
  ⟨fun _ => _, false, fun _ => stable_eq v, fun _ => placed_false _, local_const _ _, fun u w hw hd => by
    unfold okOp
    rw [if_pos (by unfold Region.wanted; rw [hg])]
    exact okFresh (okUpon_of_quiet (h u w hw hd)), fun h0 => absurd h0 (by rw [hf]; exact Bool.false_ne_true), k⟩
/-- an operation that looks at no world -/
theorem flow_float {v : Value} (hg : o.guard = none) (h : ∀ u w, St w0 w → depH V u w o.after.toList → ∀ w2, (execOp (A u).eval o).run P w2 = .ok (.value v) w2)
    (k : flow P ops w0 A T (i + 1) os (ext V i fun x _ => x = v) (extB Φ i false)) : flow P ops w0 A T i (o :: os) V Φ :=
  ⟨fun _ => _, false, fun _ => stable_eq v, fun _ => placed_false _, local_const _ _, fun u w hw hd => by
    unfold okOp
    rw [if_pos (by unfold Region.wanted; rw [hg]), h u w hw hd w]
    exact ⟨⟨rfl, fun h => by cases h⟩, St.refl _⟩, fun _ => ⟨rfl, fun u w hw hd => ⟨v, h u w hw hd, fun _ => rfl⟩⟩, k⟩
theorem flow_pureg {v : Value} {j : Nat} {b : Bool} (hg : o.guard = some (j, b)) (hy : ∀ u w, St w0 w → depH V u w o.after.toList → yielded ops (A u).tmps j = some b) (h : ∀ u w, St w0 w → depH V u w o.after.toList → o.quietAt P (A u) (St w) w v)
    (k : flow P ops w0 A T (i + 1) os (ext V i fun x _ => x = v) (extB Φ i false)) : flow P ops w0 A T i (o :: os) V Φ :=
  ⟨fun _ => _, false, fun _ => stable_eq v, fun _ => placed_false _, local_const _ _, fun u w hw hd => by
    unfold okOp
    rw [if_pos (by unfold Region.wanted; rw [hg]; simp [hy u w hw hd])]
    exact okFresh (okUpon_of_quiet (h u w hw hd)), fun h0 => absurd h0 (by unfold fl; rw [hg]; simp), k⟩
theorem flow_skipg {j : Nat} {b : Bool} (hg : o.guard = some (j, b)) (hy : ∀ u w, St w0 w → depH V u w o.after.toList → yielded ops (A u).tmps j = some (!b))
    (k : flow P ops w0 A T (i + 1) os (ext V i fun x _ => x = undef) (extB Φ i false)) : flow P ops w0 A T i (o :: os) V Φ :=
  ⟨fun _ => _, false, fun _ => stable_eq undef, fun _ => placed_false _, local_const _ _, fun u w hw hd => by
    unfold okOp
    rw [if_neg (by unfold Region.wanted; rw [hg]; cases b <;> simp [hy u w hw hd])]
    exact ⟨rfl, fun h => by cases h⟩, fun h0 => absurd h0 (by unfold fl; rw [hg]; simp), k⟩
theorem stable_new (N : Nat) (T : TypeId) (zs : List Value) (hT : T ≠ Par.T) : Stable (NewB N T zs) := fun _ _ _ ⟨b, h1, h2, h3⟩ hs => ⟨b, h1, h2, Bx.st h3 hs hT⟩
theorem flow_alloc {t : TypeId} {zs : Array Value} (hT : t ≠ Par.T) (hg : o.guard = none) (hf : fl o = false) (h : ∀ u w, (execOp (A u).eval o).run P w = .ok (.value (.pointer (some ⟨w.heap.size, 0, none⟩))) (w.alloc (.cells zs t)))
    (k : flow P ops w0 A T (i + 1) os (ext V i (NewB w0.heap.size t zs.toList)) (extB Φ i true)) : flow P ops w0 A T i (o :: os) V Φ :=
  ⟨fun _ => _, true, fun _ => stable_new _ _ _ hT, fun _ => placed_new _ _ _ _, local_const _ _, fun u w hw hd => by
    unfold okOp
    rw [if_pos (by unfold Region.wanted; rw [hg]), h u w]
    exact ⟨⟨⟨w.heap.size, rfl, hw.size, Bx.new _ _ _⟩, fun _ b hb => by cases hb; exact Nat.le_refl _⟩, .of_below ((Below.refl _ _).alloc (Nat.le_refl _) _)⟩, fun h0 => absurd h0 (by rw [hf]; exact Bool.false_ne_true), k⟩
/-- a value of which a relation is known -/
theorem flow_rel {Vi : Value → World → Prop} (φ : Bool) (hg : o.guard = none) (hf : fl o = false) (hs : Stable Vi) (hp : Placed φ Vi) (h : ∀ u w, St w0 w → depH V u w o.after.toList → okUpon P (Fresh φ Vi w) w ((execOp (A u).eval o).run P w))
    (k : flow P ops w0 A T (i + 1) os (ext V i Vi) (extB Φ i φ)) : flow P ops w0 A T i (o :: os) V Φ :=
  ⟨fun _ => _, φ, fun _ => hs, fun _ => hp, local_const _ _, fun u w hw hd => by
    unfold okOp
    rw [if_pos (by unfold Region.wanted; rw [hg])]
    exact h u w hw hd, fun h0 => absurd h0 (by rw [hf]; exact Bool.false_ne_true), k⟩
/-- an operation that looks at no world, of whose value a relation to an earlier value is known -/
theorem flow_link {R : Value → Value → Prop} {k : Nat} (hg : o.guard = none) (hk : o.after.toList.any (fun e => Region.binds .any e && e.on == k) = true) (h : ∀ u w, St w0 w → depH V u w o.after.toList → ∃ v, (∀ w2, (execOp (A u).eval o).run P w2 = .ok (.value v) w2) ∧ R (u k) v)
    (c : flow P ops w0 A T (i + 1) os (extU V i fun u x _ => R (u k) x) (extB Φ i false)) : flow P ops w0 A T i (o :: os) V Φ :=
  ⟨fun u x _ => R (u k) x, false, fun _ _ _ _ h _ => h, fun _ => placed_false _, fun u u' x w hu hR => by
    obtain ⟨e, he, h2⟩ := List.any_eq_true.1 hk
    rw [Bool.and_eq_true, beq_iff_eq] at h2
    have := hu e he h2.1
    rw [h2.2] at this
    show R (u' k) x
    rw [← this]; exact hR, fun u w hw hd => by
    obtain ⟨v, h1, h2⟩ := h u w hw hd
    unfold okOp
    rw [if_pos (by unfold Region.wanted; rw [hg]), h1 w]
    exact ⟨⟨h2, fun h => by cases h⟩, St.refl _⟩, fun _ => ⟨rfl, fun u w hw hd => by
      obtain ⟨v, h1, h2⟩ := h u w hw hd
      exact ⟨v, h1, fun _ => h2⟩⟩, c⟩
end
theorem stable_tup {Q : Value → Int → World → Prop} (h : ∀ d e w w', Q d e w → St w w' → Q d e w') : Stable (TupR Q) := fun _ _ _ ⟨h1, d, e, h2, h3⟩ hs => ⟨h1, d, e, h2, h _ _ _ _ h3 hs⟩
end
end Gus.FlS
end
section
/- gussetlaw16.SparsesBuild: the additions, turned. -/
namespace Gus
open Go Go.RowKit Go.Proofs
theorem own_low {w : World} {lo lo' size n : Nat} {e : TypeId} {v : Value} {xs : List Value} (h : w.ownsRow lo e size v n xs) (hl : lo' ≤ lo) : w.ownsRow lo' e size v n xs := by
  refine ⟨h.1, ?_⟩
  rcases h.2 with h2 | ⟨g, cap, cur, h1, h2, h3⟩
  · exact .inl h2
  · exact .inr ⟨g, cap, cur, h1, Nat.le_trans hl h2, h3⟩
theorem SpN.setTy {w : World} {lo S j : Nat} {v x : Value} {r c : Nat} {f : Nat → Nat → Rat} {T : TypeId} {cs : List Value} (h : SpN w lo v r c f) (hS : Bx w S T cs) (h1 : T ≠ 95) (h2 : T ≠ 97) : SpN (w.setCell ⟨S, j, none⟩ x) lo v r c f := by
  have hS1 : w.heap[S]? = some (Obj.cells cs.toArray T (0, 0)) := hS
  obtain ⟨R, vs, rfl, h3, h4, h5⟩ := h
  refine ⟨R, vs, rfl, h3, h4.other (fun e => ?_) x, h5.of_block fun i k hi hk => heap_setCell_other w ⟨S, j, none⟩ k x (fun e => ?_)⟩
  · have h6 : w.heap[R]? = some (Obj.cells vs.toArray _ (0, 0)) := h4
    rw [← e, hS1] at h6
    simp only [Option.some.injEq, Obj.cells.injEq] at h6
    exact h1 h6.2.1
  · rcases h5.row i hi with ⟨e2, _⟩ | ⟨g, cap, cur, e2, h0, hg, _⟩
    · rw [e2] at hk; simp [Value.ownBlock] at hk
    · rw [e2] at hk
      simp [Value.ownBlock] at hk
      subst hk
      subst e
      rw [hS1] at hg
      simp only [Option.some.injEq, Obj.cells.injEq] at hg
      exact h2 hg.2.1
theorem itl_append (A B : List Itm) : itl (A ++ B) = itl A ++ itl B := by unfold itl; rw [List.flatMap_append]
theorem OwnI.cellsT {w : World} {lo G vk n : Nat} {Li : List Itm} (h : w.ownsRow lo 60 7 (.slice (some ⟨G, 0, none⟩) n vk) n (itl Li)) (k : Nat) : ∀ (j : Nat) (u : Value), (itl (Li.take k))[j]? = some u → w.cell? ((⟨G, 0, none⟩ : Addr).add j) = some u := fun j u hj => by
  refine h.cells (g := G) rfl j u ?_
  rw [← List.take_append_drop k Li, itl_append, List.getElem?_append_left (by have := (List.getElem?_eq_some_iff.1 hj).1; exact this)]
  exact hj
theorem OwnI.cellsD {w : World} {lo G vk n : Nat} {Li : List Itm} (h : w.ownsRow lo 60 7 (.slice (some ⟨G, 0, none⟩) n vk) n (itl Li)) {k : Nat} (hk : k ≤ Li.length) : ∀ (j : Nat) (u : Value), (itl (Li.drop k))[j]? = some u → w.cell? ((⟨G, k * 7, none⟩ : Addr).add j) = some u := fun j u hj => by
  have e := h.cells (g := G) rfl (k * 7 + j) u (by
    rw [← List.take_append_drop k Li, itl_append, List.getElem?_append_right (by rw [itl_length, List.length_take]; omega), itl_length, List.length_take, Nat.min_eq_left hk, Nat.add_sub_cancel_left]
    exact hj)
  rw [Addr.add_lit] at e ⊢
  rw [Nat.zero_add] at e
  exact e
theorem of_turn {W : World} {B r c n k : Nat} {x : Value} {Li : List Itm} {f : Nat → Nat → Rat} (h : W.ownsRow B 60 7 x n (itl (Li.drop k ++ Li.take k))) (hn : n = Li.length) (hk : k ≤ Li.length) (hr : r ≤ 6) (hc : c ≤ 6) (hL : Li.length ≤ 30) (hok : Li.all (okI r c) = true) (hits : ∀ x ∈ Li, SzK 128 x.2.2)
    (hturn : foldA (fun _ _ => 0) ((Li.drop k ++ Li.take k).map toN) = f) (hB : B ≤ W.heap.size) :
    Calls Tryz.prog 16 #[.int .i64 r, .int .i64 c, x] W fun e w' => (∃ v, e = .returned v ∧ TupR (fun d e w => e = 0 ∧ SpN w B d r c f) v w') ∧ Below W.heap.size W w' := by
  obtain ⟨its, hi⟩ : ∃ its, its = Li.drop k ++ Li.take k := ⟨_, rfl⟩
  have hil : its.length = n := by rw [hi, List.length_append, List.length_drop, List.length_take]; omega
  have him : ∀ y ∈ its, y ∈ Li := fun y hy => by
    rw [hi] at hy
    rcases List.mem_append.1 hy with h | h
    · exact List.mem_of_mem_drop h
    · exact List.mem_of_mem_take h
  rw [← hi] at h hturn
  clear hi
  obtain ⟨a, cap, rfl⟩ : ∃ a cap, x = .slice a n cap := by
    rcases h.2 with ⟨rfl, h0⟩ | ⟨g, cap, _, rfl, _⟩
    · exact ⟨none, 0, by rw [h0]⟩
    · exact ⟨_, _, rfl⟩
  subst hil
  refine (of_ok (j := 128) W r c a cap its (itsAt_own h) (by omega) (by omega) (by omega) (fun i => ?_) (by omega)).mono ?_
  · by_cases hi : i < its.length
    · refine hits _ (him _ ?_)
      rw [List.getD_eq_getElem?_getD, List.getElem?_eq_getElem hi]; exact List.getElem_mem _
    · rw [List.getD_eq_getElem?_getD, List.getElem?_eq_none (by omega)]; exact SzK.zero.mono (by decide)
  · rintro e w' ⟨⟨_, v, rfl, hv⟩ | ⟨h0, _⟩, hb⟩
    · rw [hturn] at hv
      have hv2 : SpN w' B v r c f := hv.mono hB
      refine ⟨⟨_, rfl, ?_, v, 0, rfl, rfl, hv2⟩, hb⟩
      obtain ⟨R, vs, rfl, _⟩ := hv
      exact ⟨_, _, _, _, _, _, rfl⟩
    · rw [List.all_eq_false] at h0
      obtain ⟨y, hy, h1⟩ := h0
      exact absurd (List.all_eq_true.1 hok y (him y hy)) (by simpa using h1)
end Gus
namespace Gus.FlS
open Go Go.RowKit Go.Proofs
section
variable [Par] {P : Program} {ops : Array Oper} {w0 : World} {A : (Nat → Value) → Act} {T : Act → World → Prop} {i : Nat} {o : Oper} {os : List Oper} {V : Nat → (Nat → Value) → Value → World → Prop} {Φ : Nat → Bool}
theorem flow_slice0 {t : TypeId} {zs : Array Value} {n : Nat} (hg : o.guard = none) (hf : fl o = false) (h : ∀ u w, St w0 w → depH V u w o.after.toList → (execOp (A u).eval o).run P w = .ok (.value (.slice (some ⟨w.heap.size, 0, none⟩) n n)) (w.alloc (.cells zs t)))
    (k : flow P ops w0 A T (i + 1) os (ext V i fun x _ => ∃ b, x = .slice (some ⟨b, 0, none⟩) n n) (extB Φ i false)) : flow P ops w0 A T i (o :: os) V Φ :=
  flow_rel false hg hf (fun _ _ _ h _ => h) (placed_false _) (fun u w hw hd => by
    rw [h u w hw hd]
    exact ⟨⟨⟨_, rfl⟩, fun h => by cases h⟩, .of_below ((Below.refl _ _).alloc (Nat.le_refl _) _)⟩) k
theorem stable_head {T lo size n : Nat} {xs : List Value} (hT : Par.T = T) (hm : n * size = Par.m) : Stable fun x w => w.ownsRow lo T size x n xs := fun v w w' h hs => by
  subst hT; exact own_head h hs hm
theorem stable_done {T lo size n : Nat} {xs tk : List Value} (hT : Par.T = T) (ht : Par.tk = tk) (hm : xs.length = Par.m) : Stable fun x w => w.ownsRow lo T size x n (xs ++ tk) := fun v w w' h hs => by
  subst hT; subst ht; exact own_done h hs hm
end
end Gus.FlS
namespace Gus
open Go Go.RowKit Go.Proofs
theorem fcs_one (q : Rat) : ∀ u ∈ fcs q, u.oneCell' = true := fun u hu => by
  unfold fcs at hu
  simp only [List.mem_cons, List.not_mem_nil, or_false] at hu
  rcases hu with h | h | h | h | h <;> (rw [h]; rfl)
theorem itl_one (L : List Itm) : ∀ u ∈ itl L, u.oneCell' = true := fun u hu => by
  unfold itl at hu
  obtain ⟨x, _, h⟩ := List.mem_flatMap.1 hu
  unfold ics at h
  simp only [List.mem_cons] at h
  rcases h with h | h | h
  · rw [h]; rfl
  · rw [h]; rfl
  · exact fcs_one _ _ h
theorem app_turn [p : FlS.Par] {P : Program} {B m n k : Nat} {T t ty : TypeId} {tk xs : List Value} {i : TypeInfo} {z x : Value} {w : World} (hp0 : p.B0 = B) (hpT : p.T = T) (hpm : p.m = m * 7) (hpt : p.tk = tk) (hl : tk.length = k * 7) (ht : P.underlying t = some (.slice T)) (hi : P.info? T = some i) (hz : i.zero = some z) (hsize : i.size = 7) (hby : i.bytes = 72)
    (hzs : z.cells.size = 7 := by rfl) (hx : w.ownsRow B T 7 x m xs) (hm0 : 0 < m) (hmk : m + k = n) (hn : n ≤ 1000) (a : Addr) (c : Nat) (hnews : ∀ (j : Nat) (u : Value), tk[j]? = some u → w.cell? (a.add j) = some u) (h1 : ∀ u ∈ tk, u.oneCell' = true) (hB : B ≤ w.heap.size) :
    ∃ v' w', (Builtin.append_ #[t, t] ty #[x, .slice (some a) k c]).run P w = .ok v' w' ∧ w'.ownsRow B T 7 v' n (xs ++ tk) ∧ FlS.St w w' := by
  subst hp0; subst hpT; subst hpt; subst hmk
  exact FlS.append_over ht hi hz hsize hby hzs (by decide) hx hm0 (Nat.le_refl _) hpm.symm a k c hl hnews h1 (by simp only [maxLen]; omega) (by omega) hB
end Gus
namespace Gus
open Go Go.RowKit Go.Proofs
theorem app_zero {P : Program} {t ty e : TypeId} {i : TypeInfo} (ht : P.underlying t = some (.slice e)) (hi : P.info? e = some i) (b : Addr) (a : Option Addr) (c : Nat) (w : World) :
    (Builtin.append_ #[t, t] ty #[.slice (some b) 0 0, .slice a 0 c]).run P w = .ok (.slice (some b) 0 0) w := by
  cases a <;> simp [Builtin.append_, run_underlying ht, Go.sizeOf, typeInfo, hi, Builtin.lenOf, Builtin.firstCells, loadCells, loadCellsFrom, storeCells]
theorem of_none {W : World} {B E r c : Nat} {f : Nat → Nat → Rat} (hE : B ≤ E) (h : Bx W E 60 []) (hr : r ≤ 6) (hc : c ≤ 6) (hf : foldA (fun _ _ => 0) (([] : List Itm).map toN) = f) (hB : B ≤ W.heap.size) :
    Calls Tryz.prog 16 #[.int .i64 r, .int .i64 c, .slice (some ⟨E, 0, none⟩) 0 0] W fun e w' => (∃ v, e = .returned v ∧ TupR (fun d e w => e = 0 ∧ SpN w B d r c f) v w') ∧ Below W.heap.size W w' :=
  of_turn (k := 0) (Li := []) (n := 0) ⟨rfl, .inr ⟨E, 0, #[], rfl, hE, h, Nat.le_refl _, by simp [maxLen], rfl, rfl⟩⟩ rfl (Nat.le_refl _) hr hc (by simp) rfl (fun x hx => by cases hx) hf hB
end Gus
end
section
/- gussetlaw16.SparsesBuild: the walk. -/
namespace Gus
open Go Go.RowKit Go.Proofs
theorem fz_bld : fracV 0 = .agg #[.int .u64 0, .string ⟨#[]⟩, .bool false, .int .u64 0, .string ⟨#[]⟩] := fracV_int 0
set_option maxRecDepth 100000 in
set_option maxHeartbeats 16000000 in
theorem build_small (w : World) (N M T : Nat) (hN : N < 256) (hM : M < 256) (hT : T < 256) (la : Option Addr) (lc : Nat) (l : List TQ) (hl : TAt w la l) (hok : TOk l) (hL : l.length ≤ 30) (htab : TabW w) :
    Calls Tryz.prog 3 #[.int .u8 N, .int .u8 M, .slice la l.length lc, .int .u8 T] w fun e w' => e = .returned (.bool true) ∧ Below w.heap.size w w' := by
  have cz := works_any
  obtain ⟨i0, hi0, hi1, hi2, hi3⟩ := info_parts info_item
  obtain ⟨L, hLL⟩ : ∃ L, L = l.length := ⟨_, rfl⟩
  rw [← hLL] at hL ⊢
  have k1 : ¬ (30 : Int) < L := by omega
  obtain ⟨r, hr⟩ : ∃ r, r = N % 7 := ⟨_, rfl⟩
  obtain ⟨c, hc⟩ : ∃ c, c = M % 7 := ⟨_, rfl⟩
  have er : (N : Int) % 7 = (r : Int) := by omega
  have ec : (M : Int) % 7 = (c : Int) := by omega
  have hr6 : r ≤ 6 := by omega
  have hc6 : c ≤ 6 := by omega
  have cn := new_ok r c (by omega) (by omega)
  have cze := fun W => rzero16_any W r c (by omega) (by omega)
  obtain ⟨X, hX⟩ : ∃ X, X = w.heap.size := ⟨_, rfl⟩
  have HX := Lib.hid hX
  have HLL := Lib.hid hLL
  have HL := Lib.hid hl
  have HOK := Lib.hid hok
  have HTAB := Lib.hid htab
  have hin0 : In X w w := by rw [hX]; exact In.self w
  clear hX hLL hl hok htab hr hc
  go_enter Tryz.func3, Tryz.ntmps3
  skip
  go_wp2_with fail
  ((with_reducible refine (cn _).mono ?_))
  rintro e w1 ⟨b, rfl, hXb, hB, hb⟩
  replace hin0 := hin0.call hb
  rw [← HX.out] at hXb
  clear hb cn
  skip
  skip
  ((go_wp2_with fail); (((with_reducible refine (cze _).mono ?_))); (rintro e w2 ⟨⟨wv, rfl, hm⟩, hb⟩); (clear cze); (replace hin0 := hin0.call hb); (replace hB := hB.call hb); (clear hb))
  obtain ⟨ma, mk, rfl⟩ := hm.shape
  go_upto_region 8 with fail
  skip
  ((obtain ⟨S, hS⟩ : ∃ z, z = w2.heap.size := ⟨_, rfl⟩); (have bS := Bx.new_at w2 #[.int .i64 c, .slice ma r mk] 30 hS); (have hXS : X ≤ S := (by rw [hS]; exact hin0.siz); have hbS : b + 1 < S := (by rw [hS]; exact hB.1.lt)); (replace hin0 := hin0.alloc (.cells #[.int .i64 c, .slice ma r mk] 30)); (replace hB := hB.call ((Below.refl _ _).alloc (Nat.le_refl _) (.cells #[.int .i64 c, .slice ma r mk] 30))); (replace hm := hm.call ((Below.refl _ _).alloc (Nat.le_refl _) (.cells #[.int .i64 c, .slice ma r mk] 30))); (rw [← hS]); (clear hS); (generalize w2.alloc (.cells #[.int .i64 c, .slice ma r mk] 30) = W1 at *))
  go_wp2_with fail
  go_loopw [14, 15, 16] (fun v14 v15 v16 wr => ∃ (i : Nat) (iv : Value) (ins : Bool) (ma : Option Addr) (mk : Nat), i ≤ L ∧ v14 = iv ∧ v15 = .bool ins ∧ v16 = .int .i64 i ∧ In X w wr ∧ BB wr (b + 1) b i r c (fT r c (l.take i)) ∧ Bx wr S 30 [.int .i64 c, .slice ma r mk] ∧ MatR wr (.agg #[.int .i64 c, .slice ma r mk]) r c (fT r c (l.take i)) ∧ OwnI wr (S + 1) iv (itsT r c (l.take i))) (fun _ _ v16 _ => L - (RowKit.intOf v16).toNat)
  case atStart => exact ⟨0, _, true, ma, mk, Nat.zero_le _, rfl, rfl, rfl, hin0, hB, bS, hm, OwnI.start _ _⟩
  case round =>
    rename World => wr
    clear hin0 hB hm bS
    obtain ⟨i, iv, ins, ma, mk, hi, hiv, rfl, rfl, hin, hB, bS, hm, hown⟩ := hrel
    obtain rfl := hiv.symm
    by_cases hiL : i < L
    · have hiI : (i : Int) < L := by omega
      have hi0n : (0 : Int) ≤ i := by omega
      have hiw : IntKind.i64.wrap ((i : Int) + 1) = ((i + 1 : Nat) : Int) := IntWalk.i64_in _ (by omega)
      have hT := HL.out.call (by rw [← HX.out]; exact hin.bel)
      obtain ⟨lb, loff, hla, hrest⟩ := hT i (by rw [← HLL.out]; exact hiL)
      clear hrest
      subst hla
      obtain ⟨t, ht⟩ : ∃ t, t = l.getD i (0, 0, 0, 0) := ⟨_, rfl⟩
      have hmem : t ∈ l := by
        rw [ht, List.getD_eq_getElem?_getD, List.getElem?_eq_getElem (by rw [← HLL.out]; exact hiL)]; exact List.getElem_mem _
      have hsq := qT_szk HOK.out hmem
      have hokt := HOK.out _ hmem
      obtain ⟨I, K, n, d⟩ := t
      simp only at hokt
      obtain ⟨hI, hK, hn0, hn1, hd0, hd1⟩ := hokt
      obtain ⟨q, hq⟩ : ∃ q, q = qT (I, K, n, d) := ⟨_, rfl⟩
      have hqe : q = qOf n d := hq
      obtain ⟨row, hrow⟩ : ∃ x, x = (I : Int) - 2 := ⟨_, rfl⟩
      obtain ⟨col, hcol⟩ : ∃ x, x = (K : Int) - 2 := ⟨_, rfl⟩
      have hit : itT (l.getD i (0, 0, 0, 0)) = (row, col, q) := by rw [← ht, hrow, hcol, hq]; rfl
      rw [← hq] at hsq
      have hwr : IntKind.i64.wrap ((I : Int) - 2) = row := by rw [hrow]; exact IntWalk.i64_in _ (by omega)
      have hwc : IntKind.i64.wrap ((K : Int) - 2) = col := by rw [hcol]; exact IntWalk.i64_in _ (by omega)
      have hrb : -2 ≤ row ∧ row ≤ 253 := by omega
      have hcb : -2 ≤ col ∧ col ≤ 253 := by omega
      have cref := fun W => qref_any n d hn0 hn1 hd0 hd1 W
      unfold RFrac at cref
      have cof := fun W => qOf_any n d hn0 hn1 hd0 hd1 W
      rw [← hqe] at cref cof
      have hil : i < l.length := by rw [← HLL.out]; exact hiL
      have HIL := Lib.hid hil
      have HTQ := Lib.hid ht.symm
      have HIT := Lib.hid hit
      have HSQ := Lib.hid hsq
      obtain ⟨hlb, d0, d1, d2, d3⟩ := hT.cells HIL.out HTQ.out
      have hI8 : IntKind.i64.wrap (I : Int) = (I : Int) := IntWalk.i64_in _ (by omega)
      have hK8 : IntKind.i64.wrap (K : Int) = (K : Int) := IntWalk.i64_in _ (by omega)
      clear hmem hq hqe hit hsq hrow hcol ht hil d2 d3
      go_upto_region 13 with fail
      skip
      skip
      have h := In.self wr; have hc := h.cell; have hf := h.frozen; refine wp_region_flow 15 (by kernel_rfl) (by kernel_rfl) (fun _ _ d _ _ h => by cases d <;> exact h) ?_; simp only [List.take_succ_cons, List.take_zero, List.drop_succ_cons, List.drop_zero]; simp only [putAll, Act.put, List.setIfInBounds_toArray, List.set]; (try simp only [Nat.reduceAdd]); (try simp only [Nat.zero_add]); (repeat (first | ((with_reducible refine flow_float (v := ?_) ?_ ?_ ?_); rotate_left 1; (focus (with_reducible rfl)); (focus (intro u w1 hw hd w2; (try simp only [depH] at hd); (try simp only [ext] at hd); (try simp only [extU] at hd); (try simp only [Nat.reduceAdd] at hd); (try simp only [Nat.reduceEqDiff] at hd); (try simp only [reduceIte] at hd); (try simp only [and_true] at hd); (try simp only [true_and] at hd); go_simp; exact rfl))) | ((first | ((with_reducible refine flow_pure0 (v := ?_) ?_ ?_ ?_ ?_); rotate_left 1; (focus (with_reducible rfl)); (focus rfl)) | ((with_reducible refine flow_pureg (v := ?_) (j := ?_) (b := ?_) ?_ ?_ ?_ ?_); rotate_left 3; (focus (with_reducible rfl)); (focus (intro u w1 hw hd; (try simp only [depH] at hd); (try simp only [ext] at hd); (try simp only [extU] at hd); (try simp only [Nat.reduceAdd] at hd); (try simp only [Nat.reduceEqDiff] at hd); (try simp only [reduceIte] at hd); (try simp only [and_true] at hd); (try simp only [true_and] at hd); simp [yielded, hd]; done)))); (focus (intro u w1 hw hd; (try simp only [depH] at hd); (try simp only [ext] at hd); (try simp only [extU] at hd); (try simp only [Nat.reduceAdd] at hd); (try simp only [Nat.reduceEqDiff] at hd); (try simp only [reduceIte] at hd); (try simp only [and_true] at hd); (try simp only [true_and] at hd); have hc' := hw.cell; go_simp; exact rfl))) | ((with_reducible refine flow_skipg (j := ?_) (b := ?_) ?_ ?_ ?_); rotate_left 2; (focus (with_reducible rfl)); (focus (intro u w1 hw hd; (try simp only [depH] at hd); (try simp only [ext] at hd); (try simp only [extU] at hd); (try simp only [Nat.reduceAdd] at hd); (try simp only [Nat.reduceEqDiff] at hd); (try simp only [reduceIte] at hd); (try simp only [and_true] at hd); (try simp only [true_and] at hd); simp [yielded, hd]; done))) | ((with_reducible refine flow_alloc (t := ?_) (zs := ?_) ?_ ?_ ?_ ?_); rotate_left 2; (focus (with_reducible rfl)); (focus rfl); (focus (intro u w1; go_simp; exact rfl)))))
      (try clear hc hf h); intro u w' h ha hdi; replace h := h.ins; (try simp only [World.size_alloc] at h); (try dsimp only at ha); (repeat rw [World.size_alloc] at ha); (try simp only [allH] at ha); (try simp only [ext] at ha); (try simp only [extU] at ha); (try simp only [Nat.reduceAdd] at ha); (try simp only [Nat.reduceEqDiff] at ha); (try simp only [reduceIte] at ha); (try simp only [and_true] at ha); (try simp only [true_and] at ha); have hc := h.cell; have hf := h.frozen; have hb := h.bel; clear hdi hc hf; clear d0 d1; replace hin := hin.call hb; replace hB := hB.call hb; replace hm := hm.call hb; replace hown := hown.call hb; replace hT := hT.call hb; replace bS := bS.call hb; clear hb h; rename World => W2
      simp only [ha]
      clear ha hI8 hK8 hwr hwc
      obtain ⟨hlb, d0, d1, d2, d3⟩ := hT.cells HIL.out HTQ.out
      go_upto_region 14 with fail
      have hsp := add_split (r := r) (c := c) HIL.out HIT.out
      have hsz := fT_szk (HOK.out.take i) (by rw [List.length_take]; have := HLL.out; omega) r c
      obtain ⟨g', hg'⟩ : ∃ x, x = fT r c (l.take (i + 1)) := ⟨_, rfl⟩
      obtain ⟨L', hL'⟩ : ∃ x, x = itsT r c (l.take (i + 1)) := ⟨_, rfl⟩
      rw [← hg', ← hL'] at hsp
      have hLen : (itsT r c (l.take i)).length ≤ 30 := by
        have := itsT_len r c (l.take i)
        rw [List.length_take] at this
        omega
      generalize fT r c (l.take i) = g at *
      generalize itsT r c (l.take i) = Li at *
      obtain ⟨ok, hok2, cadd⟩ := addr_any hm (by omega) (by omega) hsz HSQ.out hsp
      have HG := Lib.hid hg'
      have HLI := Lib.hid hL'
      have HO2 := Lib.hid hok2
      have HSZ := Lib.hid hsz
      clear hsp hg' hL' hok2 hsz
      ((have s0 := bS.c0); (have s1 := bS.c1); (have sl := bS.lt))
      have h := In.self W2; have hc := h.cell; have hf := h.frozen; refine wp_region_flow 14 (by kernel_rfl) (by kernel_rfl) (fun _ _ d _ _ h => by cases d <;> exact h) ?_; simp only [List.take_succ_cons, List.take_zero, List.drop_succ_cons, List.drop_zero]; simp only [putAll, Act.put, List.setIfInBounds_toArray, List.set]; (try simp only [Nat.reduceAdd]); (try simp only [Nat.zero_add]); (repeat (first | ((with_reducible refine flow_float (v := ?_) ?_ ?_ ?_); rotate_left 1; (focus (with_reducible rfl)); (focus (intro u w1 hw hd w2; (try simp only [depH] at hd); (try simp only [ext] at hd); (try simp only [extU] at hd); (try simp only [Nat.reduceAdd] at hd); (try simp only [Nat.reduceEqDiff] at hd); (try simp only [reduceIte] at hd); (try simp only [and_true] at hd); (try simp only [true_and] at hd); go_simp; exact rfl))) | ((first | ((with_reducible refine flow_pure0 (v := ?_) ?_ ?_ ?_ ?_); rotate_left 1; (focus (with_reducible rfl)); (focus rfl)) | ((with_reducible refine flow_pureg (v := ?_) (j := ?_) (b := ?_) ?_ ?_ ?_ ?_); rotate_left 3; (focus (with_reducible rfl)); (focus (intro u w1 hw hd; (try simp only [depH] at hd); (try simp only [ext] at hd); (try simp only [extU] at hd); (try simp only [Nat.reduceAdd] at hd); (try simp only [Nat.reduceEqDiff] at hd); (try simp only [reduceIte] at hd); (try simp only [and_true] at hd); (try simp only [true_and] at hd); simp [yielded, hd]; done)))); (focus (intro u w1 hw hd; (try simp only [depH] at hd); (try simp only [ext] at hd); (try simp only [extU] at hd); (try simp only [Nat.reduceAdd] at hd); (try simp only [Nat.reduceEqDiff] at hd); (try simp only [reduceIte] at hd); (try simp only [and_true] at hd); (try simp only [true_and] at hd); have hc' := hw.cell; go_simp; exact rfl))) | ((with_reducible refine flow_skipg (j := ?_) (b := ?_) ?_ ?_ ?_); rotate_left 2; (focus (with_reducible rfl)); (focus (intro u w1 hw hd; (try simp only [depH] at hd); (try simp only [ext] at hd); (try simp only [extU] at hd); (try simp only [Nat.reduceAdd] at hd); (try simp only [Nat.reduceEqDiff] at hd); (try simp only [reduceIte] at hd); (try simp only [and_true] at hd); (try simp only [true_and] at hd); simp [yielded, hd]; done))) | ((with_reducible refine flow_alloc (t := ?_) (zs := ?_) ?_ ?_ ?_ ?_); rotate_left 2; (focus (with_reducible rfl)); (focus rfl); (focus (intro u w1; go_simp; exact rfl)))))
      (with_reducible refine flow_rel (Vi := FVr q) false ?_ ?_ ?_ ?_ ?_ ?_); (focus rfl); (focus rfl); (focus exact stable_fv _); (focus exact placed_false _); (focus (intro u w1 hw hd; (try simp only [depH] at hd); (try simp only [ext] at hd); (try simp only [extU] at hd); (try simp only [Nat.reduceAdd] at hd); (try simp only [Nat.reduceEqDiff] at hd); (try simp only [reduceIte] at hd); (try simp only [and_true] at hd); (try simp only [true_and] at hd); have hc' := hw.cell; go_simp; (try simp only [okUpon]); go_at_call 8; ((with_reducible refine (cref _).mono ?_)); rintro e w'' ⟨⟨v, rfl, hv⟩, hb⟩; exact ⟨v, rfl, ⟨hv, fun h => by cases h⟩, hb⟩))
      (with_reducible refine flow_rel (Vi := AddQ r c g' ok) false ?_ ?_ ?_ ?_ ?_ ?_); (focus rfl); (focus rfl); (focus exact stable_addq _ _ _ _); (focus exact placed_false _); (focus (intro u w1 hw hd; (try simp only [depH] at hd); (try simp only [ext] at hd); (try simp only [extU] at hd); (try simp only [Nat.reduceAdd] at hd); (try simp only [Nat.reduceEqDiff] at hd); (try simp only [reduceIte] at hd); (try simp only [and_true] at hd); (try simp only [true_and] at hd); obtain ⟨hd1, hd2, hd3, hd4, _⟩ := hd; have hc' := hw.cell; go_simp; (try simp only [okUpon]); go_at_call 7; ((with_reducible refine (cadd _ _ hw.ins hd4.v).mono ?_)); rintro e w'' ⟨⟨v, rfl, hv⟩, hb⟩; exact ⟨v, rfl, ⟨hv, fun h => by cases h⟩, hb⟩))
      (((with_reducible refine flow_link (k := 9) (R := MvM) ?_ ?_ ?_ ?_); (focus rfl); (focus rfl); (focus (intro u w1 hw hd; (try simp only [depH] at hd); (try simp only [ext] at hd); (try simp only [extU] at hd); (try simp only [Nat.reduceAdd] at hd); (try simp only [Nat.reduceEqDiff] at hd); (try simp only [reduceIte] at hd); (try simp only [and_true] at hd); (try simp only [true_and] at hd); obtain ⟨hq9, _⟩ := hd; exact (by obtain ⟨c, a, l, k, b, h3⟩ := hq9; exact ⟨u 9, fun w2 => (by go_simp), rfl, c, a, l, k, b, h3⟩)))); ((with_reducible refine flow_link (k := 10) (R := FstM) ?_ ?_ ?_ ?_); (focus rfl); (focus rfl); (focus (intro u w1 hw hd; (try simp only [depH] at hd); (try simp only [ext] at hd); (try simp only [extU] at hd); (try simp only [Nat.reduceAdd] at hd); (try simp only [Nat.reduceEqDiff] at hd); (try simp only [reduceIte] at hd); (try simp only [and_true] at hd); (try simp only [true_and] at hd); obtain ⟨h4, c, a, l, k, b, h5⟩ := hd; exact ⟨.agg #[.int .i64 c, .slice a l k], fun w2 => (by clear h4; go_simp), c, a, l, k, b, h5, rfl⟩))); ((with_reducible refine flow_link (k := 10) (R := SndM) ?_ ?_ ?_ ?_); (focus rfl); (focus rfl); (focus (intro u w1 hw hd; (try simp only [depH] at hd); (try simp only [ext] at hd); (try simp only [extU] at hd); (try simp only [Nat.reduceAdd] at hd); (try simp only [Nat.reduceEqDiff] at hd); (try simp only [reduceIte] at hd); (try simp only [and_true] at hd); (try simp only [true_and] at hd); obtain ⟨h4, c, a, l, k, b, h5⟩ := hd; exact ⟨.bool b, fun w2 => (by clear h4; go_simp), c, a, l, k, b, h5, rfl⟩))))
      (repeat (first | ((with_reducible refine flow_float (v := ?_) ?_ ?_ ?_); rotate_left 1; (focus (with_reducible rfl)); (focus (intro u w1 hw hd w2; (try simp only [depH] at hd); (try simp only [ext] at hd); (try simp only [extU] at hd); (try simp only [Nat.reduceAdd] at hd); (try simp only [Nat.reduceEqDiff] at hd); (try simp only [reduceIte] at hd); (try simp only [and_true] at hd); (try simp only [true_and] at hd); go_simp; exact rfl))) | ((first | ((with_reducible refine flow_pure0 (v := ?_) ?_ ?_ ?_ ?_); rotate_left 1; (focus (with_reducible rfl)); (focus rfl)) | ((with_reducible refine flow_pureg (v := ?_) (j := ?_) (b := ?_) ?_ ?_ ?_ ?_); rotate_left 3; (focus (with_reducible rfl)); (focus (intro u w1 hw hd; (try simp only [depH] at hd); (try simp only [ext] at hd); (try simp only [extU] at hd); (try simp only [Nat.reduceAdd] at hd); (try simp only [Nat.reduceEqDiff] at hd); (try simp only [reduceIte] at hd); (try simp only [and_true] at hd); (try simp only [true_and] at hd); simp [yielded, hd]; done)))); (focus (intro u w1 hw hd; (try simp only [depH] at hd); (try simp only [ext] at hd); (try simp only [extU] at hd); (try simp only [Nat.reduceAdd] at hd); (try simp only [Nat.reduceEqDiff] at hd); (try simp only [reduceIte] at hd); (try simp only [and_true] at hd); (try simp only [true_and] at hd); have hc' := hw.cell; go_simp; exact rfl))) | ((with_reducible refine flow_skipg (j := ?_) (b := ?_) ?_ ?_ ?_); rotate_left 2; (focus (with_reducible rfl)); (focus (intro u w1 hw hd; (try simp only [depH] at hd); (try simp only [ext] at hd); (try simp only [extU] at hd); (try simp only [Nat.reduceAdd] at hd); (try simp only [Nat.reduceEqDiff] at hd); (try simp only [reduceIte] at hd); (try simp only [and_true] at hd); (try simp only [true_and] at hd); simp [yielded, hd]; done))) | ((with_reducible refine flow_alloc (t := ?_) (zs := ?_) ?_ ?_ ?_ ?_); rotate_left 2; (focus (with_reducible rfl)); (focus rfl); (focus (intro u w1; go_simp; exact rfl)))))
      (try clear hc hf h); intro u w' h ha hdi; replace h := h.ins; (try simp only [World.size_alloc] at h); (try dsimp only at ha); (repeat rw [World.size_alloc] at ha); (try simp only [allH] at ha); (try simp only [ext] at ha); (try simp only [extU] at ha); (try simp only [Nat.reduceAdd] at ha); (try simp only [Nat.reduceEqDiff] at ha); (try simp only [reduceIte] at ha); (try simp only [and_true] at ha); (try simp only [true_and] at ha); have hc := h.cell; have hf := h.frozen; clear hdi hc hf; rename World => wf
      simp only [ext, Nat.reduceEqDiff, reduceIte] at ha
      obtain ⟨⟨⟨⟨⟨hA, hadd⟩, hmv⟩, hfst⟩, hsnd⟩, E, hu, hE, bE⟩ := ha
      obtain ⟨a9, k9, h11, h12, hm2⟩ := addq_out hadd hmv hfst hsnd
      (try dsimp only)
      simp only [hA, h11, h12, hu]
      clear hA h11 h12 hu hadd hmv hfst hsnd cadd
      have hES : E ≠ S := by omega
      have KM := Lib.hid ((hm2.keepT (.of_set (j := 0) bE (by unfold tyM tyR; decide) (.int .i64 (c : Nat)))).keepT (.of_set (j := 1) (bE.set 0 (.int .i64 (c : Nat))) (by unfold tyM tyR; decide) (.slice a9 r k9)))
      clear hm2
      skip
      ((have p0 := bE.c0); (have p1 := bE.c1); (have pf0 := bE.frozen 0); (have pf1 := bE.frozen 1); (have pl := bE.lt); (have KS := Lib.hid ((bE.set 0 (.int .i64 c)).set 1 (.slice a9 r k9))); (have KH := Lib.hid ((h.setCell (p := ⟨E, 0, none⟩) (by first | exact hE | (simp; omega)) (.int .i64 c)).setCell (p := ⟨E, 1, none⟩) (by first | exact hE | (simp; omega)) (.slice a9 r k9))); (clear h bE); (go_upto_region 15 with fail); (have hb := KH.out.bel); (have bE := KS.out); (simp only [List.set] at bE); (clear s0 s1 sl); (replace hin := hin.call hb); (replace hB := hB.call hb); (replace hm := hm.call hb); (replace hown := hown.call hb); (replace hT := hT.call hb); (replace bS := bS.call hb); (clear KS KH hb pl p0 p1 pf0 pf1); (generalize (wf.setCell ⟨E, 0, none⟩ (.int .i64 c)).setCell ⟨E, 1, none⟩ (.slice a9 r k9) = W3 at *))
      ((have s0 := bS.c0); (have s1 := bS.c1); (have sl := bS.lt); (have sf0 := bS.frozen 0); (have sf1 := bS.frozen 1))
      ((have z0 := bE.c0); (have z1 := bE.c1); (have zl := bE.lt))
      have hm2 := KM.out
      have K1 := Lib.hid ((hm2.keepT (.of_set (j := 0) bS (by unfold tyM tyR; decide) (.int .i64 (c : Nat)))).keepT (.of_set (j := 1) (bS.set 0 (.int .i64 (c : Nat))) (by unfold tyM tyR; decide) (.slice a9 r k9)))
      have K2 := Lib.hid ((hin.setCell (p := ⟨S, 0, none⟩) hXS (.int .i64 (c : Nat))).setCell (p := ⟨S, 1, none⟩) hXS (.slice a9 r k9))
      have K3 := Lib.hid ((bS.set 0 (.int .i64 (c : Nat))).set 1 (.slice a9 r k9))
      have K4 := Lib.hid ((hown.set bS (by decide) 0 (.int .i64 (c : Nat))).set (bS.set 0 (.int .i64 (c : Nat))) (by decide) 1 (.slice a9 r k9))
      have K5 := Lib.hid ((hB.other (a := ⟨S, 0, none⟩) (by simp; omega) (.int .i64 (c : Nat))).other (a := ⟨S, 1, none⟩) (by simp; omega) (.slice a9 r k9))
      clear hm hm2 hin bS hown hB bE KM hES hT
      go_upto_region 16 with fail
      have hm := K1.out
      have hin := K2.out
      have bS := K3.out
      have hown := K4.out
      have hB := K5.out
      simp only [List.set] at bS
      clear K1 K2 K3 K4 K5 s0 s1 sl sf0 sf1 z0 z1 zl
      generalize (W3.setCell ⟨S, 0, none⟩ (.int .i64 (c : Nat))).setCell ⟨S, 1, none⟩ (.slice a9 r k9) = W4 at *
      obtain ⟨A1, A2, A3, A4, A5, hA, hA2⟩ : ∃ A1 A2 A3 A4 A5, fracV q = .agg #[.int .u64 A1, .string A2, .bool A3, .int .u64 A4, .string A5] ∧ fcs q = [.int .u64 A1, .string A2, .bool A3, .int .u64 A4, .string A5] := ⟨_, _, _, _, _, rfl, rfl⟩
      have hT := HL.out.call (by rw [← HX.out]; exact hin.bel)
      obtain ⟨hlb, d0, d1, d2, d3⟩ := hT.cells HIL.out HTQ.out
      rcases HO2.out with ⟨rfl, ri, ci, rfl, rfl, h1, h2, h3, h4⟩ | ⟨rfl, h1, h3, h4⟩
      · have HG4 := Lib.hid h3
        have HL4 := Lib.hid h4
        clear h3 h4 HO2
        skip
        skip
        skip
        ((go_wp2_with fail); (((with_reducible refine (cof _).mono ?_))); (rintro e W5 ⟨rfl, hb⟩); (clear hT d0 d1 d2 d3 hlb); (replace hin := hin.call hb); (replace hB := hB.call hb); (replace hm := hm.call hb); (replace hown := hown.call hb); (replace bS := bS.call hb); (clear hb))
        have ca := badd_in W5 (b + 1) b i r c g ri ci q hB h1 h2 (by omega) (by omega) (by simp only [maxLen]; omega) (by omega) (HSZ.out ri ci) HSQ.out (by decide)
        rw [hA] at ca ⊢
        go_wp2_with fail
        ((with_reducible refine ca.mono ?_))
        rintro e W6 ⟨rfl, hB6, hg6⟩
        have hm6 := hm.keepT (hB.2.keepT hg6)
        have hin6 := hin.grown hg6 hXb
        have bS6 := bS.map hB.2 hg6
        have hown6 := hown.map hB.2 hg6
        clear hB hm hin bS hown ca hg6
        rw [← HG4.out] at hB6
        go_upto_region 19 with fail
        cases ins
        all_goals
          go_upto_region 21 with fail
          have hT := HL.out.call (by rw [← HX.out]; exact hin6.bel)
          obtain ⟨hlb, d0, d1, d2, d3⟩ := hT.cells HIL.out HTQ.out
          have c9 := cof W6
          rw [hA] at c9
          go_wp2_with fail
          ((with_reducible refine c9.mono ?_))
          rintro e W7 ⟨rfl, hb⟩
          have hown7 : W7.ownsRow (S + 1) 60 7 iv Li.length (itl Li) := hown6.call hb
          have HOWN := Lib.hid hown7
          have HB := Lib.hid (hB6.call hb)
          have HMM := Lib.hid (hm6.call hb)
          have HIN := Lib.hid (hin6.call hb)
          have HBS := Lib.hid (bS6.call hb)
          have hlt := hown7.lt
          have HVLT := Lib.hid hlt
          have hsz := (hin6.call hb).siz
          have hsS := (bS6.call hb).lt
          clear hlt hown7 hb c9 hT d0 d1 d2 d3 hlb hB6 hm6 hin6 bS6 hown6
          go_wp2_with (at_builtin; go_loud (refine wpList_append_own _ rfl (.tmp 120) (.tmp 130) 32 rfl (S + 1) 60 i0 (.agg #[.int .i64 0, .int .i64 0, .int .u64 0, .string ⟨#[]⟩, .bool false, .int .u64 0, .string ⟨#[]⟩]) 7 72 Tryz.underlying32 hi0 hi1 hi2 hi3 rfl (by decide) iv Li.length (itl Li) rfl (HOWN.out.alloc _) ⟨W7.heap.size, 0, none⟩ 1 1 [.int .i64 (ri : Nat), .int .i64 (ci : Nat), .int .u64 A1, .string A2, .bool A3, .int .u64 A4, .string A5] rfl rfl ?ax1 ?ax2 ?ax3 ?ax4 ?ax5 ?_))
          try (case ax1 => (intro j u hj; rw [Addr.add_lit, Nat.zero_add, (Bx.new_at W7 #[.int .i64 (ri : Nat), .int .i64 (ci : Nat), .int .u64 A1, .string A2, .bool A3, .int .u64 A4, .string A5] 60 rfl).cell j]; exact hj))
          try (case ax2 => (first | rfl | exact ⟨rfl, rfl, rfl, rfl, rfl, rfl, rfl⟩ | (intro u hu; simp only [List.mem_cons, List.not_mem_nil, or_false] at hu; rcases hu with h | h | h | h | h | h | h <;> (rw [h]; rfl))))
          try (case ax3 => (simp only [maxLen]; omega))
          try (case ax4 => (omega))
          try (case ax5 => (first | omega | (rw [World.size_alloc]; omega)))
          intro v' w8 hown8 hgr _
          have hal : Below W7.heap.size W7 (W7.alloc (.cells #[.int .i64 (ri : Nat), .int .i64 (ci : Nat), .int .u64 A1, .string A2, .bool A3, .int .u64 A4, .string A5] 60)) := (Below.refl _ _).alloc (Nat.le_refl _) _
          have hne := fun k (h : iv.ownBlock = some k) => (HVLT.out k h)
          have hin8 : In X w w8 := ⟨(HIN.out.call hal).bel.grown hgr (HIN.out.call hal).siz (fun k h => by have := hne k h; omega), Nat.le_trans (HIN.out.call hal).siz hgr.size⟩
          have bS8 := (HBS.out.call hal).grown hgr (fun h => by have := hne _ h.symm; omega)
          have hm8 := (HMM.out.call hal).keepT (.of_own (HOWN.out.alloc _) (by unfold tyM tyR; decide) hgr)
          have hB8 := (HB.out.call hal).grown hgr (fun h => by have := hne _ h; omega) (fun h => by have := hne _ h; omega)
          have hI8 := OwnI.snoc (Li := Li) hA2 hown8
          rw [← HL4.out, HLI.out] at hI8
          rw [HG.out] at hm8 hB8
          have K1 := Lib.hid hI8
          have K2 := Lib.hid hin8
          have K3 := Lib.hid bS8
          have K4 := Lib.hid hm8
          have K5 := Lib.hid hB8
          clear hown8 hgr hal hne hin8 bS8 hm8 hB8 hI8 HOWN HB HMM HIN HBS HVLT
          go_wp2_with fail
          exact ⟨⟨i + 1, _, _, a9, k9, by omega, rfl, rfl, by go_num, K2.out, K5.out, K3.out, K4.out, K1.out⟩, by simp [RowKit.intOf]; omega⟩
      · have HG4 := Lib.hid h3
        have HL4 := Lib.hid h4
        clear h3 h4 HO2
        skip
        skip
        skip
        ((go_wp2_with fail); (((with_reducible refine (cof _).mono ?_))); (rintro e W5 ⟨rfl, hb⟩); (clear hT d0 d1 d2 d3 hlb); (replace hin := hin.call hb); (replace hB := hB.call hb); (replace hm := hm.call hb); (replace hown := hown.call hb); (replace bS := bS.call hb); (clear hb))
        have ca := badd_out W5 (b + 1) b i r c g row col q hB h1
        rw [hA] at ca ⊢
        skip
        ((go_wp2_with fail); (((with_reducible refine (ca).mono ?_))); (rintro e W6 ⟨rfl, hb⟩); (clear ca); (replace hin := hin.call hb); (replace hB := hB.call hb); (replace hm := hm.call hb); (replace hown := hown.call hb); (replace bS := bS.call hb); (clear hb))
        have cat := bat_any W6 (b + 1) b i r c g row col hB (by omega) (by omega) (wf64 (by omega) (by omega)) (wf64 (by omega) (by omega))
        rw [show atF r c g row col = 0 from if_neg h1, fz_bld] at cat
        skip
        ((go_wp2_with fail); (((with_reducible refine (cat).mono ?_))); (rintro e W7 ⟨rfl, hb⟩); (clear cat); (replace hin := hin.call hb); (replace hB := hB.call hb); (replace hm := hm.call hb); (replace hown := hown.call hb); (replace bS := bS.call hb); (clear hb))
        go_upto_region 19 with fail
        have K1 := Lib.hid hown
        have K2 := Lib.hid hin
        have K3 := Lib.hid bS
        have K4 := Lib.hid hm
        have K5 := Lib.hid hB
        clear hown hin bS hm hB
        cases ins
        all_goals
          go_wp2_with fail
          exact ⟨⟨i + 1, _, _, a9, k9, by omega, rfl, rfl, by go_num, K2.out, by rw [← HG.out, HG4.out]; exact ⟨K5.out.1, K5.out.2.mono (Nat.le_succ _)⟩, K3.out, by rw [← HG.out]; exact K4.out, by rw [← HLI.out, HL4.out]; exact K1.out⟩, by simp [RowKit.intOf]; omega⟩
    · obtain rfl : i = L := by omega
      have hirI : ¬ (i : Int) < i := by omega
      have hfull : l.take i = l := List.take_of_length_le (by rw [← HLL.out]; exact Nat.le_refl _)
      rw [hfull] at hB hm hown
      have hsz := fT_szk HOK.out (by rw [← HLL.out]; exact hL) r c
      have hits := itsT_szk HOK.out (r := r) (c := c)
      have hokI := itsT_ok r c l
      have hturn := fT_turn r c l
      have hLen : (itsT r c l).length ≤ 30 := Nat.le_trans (itsT_len r c l) (by rw [← HLL.out]; exact hL)
      generalize fT r c l = f at *
      generalize itsT r c l = Li at *
      have hrx : ∀ i k, RTx 8010 (f i k) := fun i k => rtx_szk HTAB.out (hsz i k)
      have HSZ := Lib.hid hsz
      have HITS := Lib.hid hits
      have HOKI := Lib.hid hokI
      have HTURN := Lib.hid hturn
      have HRX := Lib.hid hrx
      obtain ⟨va, vk, rfl⟩ := hown.shape
      obtain ⟨n, hn⟩ : ∃ n, n = Li.length := ⟨_, rfl⟩
      have HN := Lib.hid hn
      rw [← hn] at hLen ⊢
      have csp := (bsparse_any wr (b + 1) b i r c f hB (by omega) (by omega)).mono fun e w' ⟨v, h1, h2, h3⟩ => (⟨⟨v, h1, h2⟩, h3⟩ : (∃ v, e = Ending.returned v ∧ SpOwn w' wr.heap.size v r c (fun i => rowOf (f i) c)) ∧ Below wr.heap.size wr w')
      clear hfull hsz hits hokI hturn hrx hn
      skip
      skip
      ((go_wp2_with fail); (((with_reducible refine (csp).mono ?_))); (rintro e W2 ⟨⟨sv, rfl, hS⟩, hb⟩); (clear csp); (replace hin := hin.call hb); (replace hB := hB.call hb); (replace hm := hm.call hb); (replace hown := hown.call hb); (replace bS := bS.call hb); (clear hb))
      have hsm : SpM W2 sv r c f := SpN.m hS
      obtain ⟨ra, rk, rfl⟩ := hsm.shape
      clear hS
      skip
      go_upto_region 23 with fail
      skip
      ((obtain ⟨Q, hQ⟩ : ∃ z, z = W2.heap.size := ⟨_, rfl⟩); (have bQ := Bx.new_at W2 #[.int .i64 r, .int .i64 c, .slice ra r rk] 63 hQ); (have hXQ : X ≤ Q := (by rw [hQ]; exact hin.siz)); (replace hin := hin.alloc (.cells #[.int .i64 r, .int .i64 c, .slice ra r rk] 63)); (replace bS := bS.alloc (.cells #[.int .i64 r, .int .i64 c, .slice ra r rk] 63)); (replace hB := hB.call ((Below.refl _ _).alloc (Nat.le_refl _) (.cells #[.int .i64 r, .int .i64 c, .slice ra r rk] 63))); (replace hm := hm.call ((Below.refl _ _).alloc (Nat.le_refl _) (.cells #[.int .i64 r, .int .i64 c, .slice ra r rk] 63))); (replace hown := hown.call ((Below.refl _ _).alloc (Nat.le_refl _) (.cells #[.int .i64 r, .int .i64 c, .slice ra r rk] 63))); (replace hsm := hsm.call ((Below.refl _ _).alloc (Nat.le_refl _) (.cells #[.int .i64 r, .int .i64 c, .slice ra r rk] 63))); (rw [← hQ]); (clear hQ); (generalize W2.alloc (.cells #[.int .i64 r, .int .i64 c, .slice ra r rk] 63) = W3 at *))
      have htx : ∀ i k, i < r → k < c → RatTx W3 (f i k) ∧ (ratT (f i k)).length ≤ 8010 := fun i k _ _ => ratTx_szk (HTAB.out.call (by rw [← HX.out]; exact hin.bel)) (HSZ.out i k)
      ((have s0 := bS.c0); (have s1 := bS.c1); (have sl := bS.lt))
      ((have q0 := bQ.c0); (have q1 := bQ.c1); (have q2 := bQ.c2); (have ql := bQ.lt))
      have h := In.self W3; have hc := h.cell; have hf := h.frozen; refine wp_region_flowE 9 (by kernel_rfl) (by kernel_rfl) (fun _ _ d _ _ h => by cases d <;> exact h) ?_; simp only [List.take_succ_cons, List.take_zero, List.drop_succ_cons, List.drop_zero]; simp only [putAll, Act.put, List.setIfInBounds_toArray, List.set]; (try simp only [Nat.reduceAdd]); (try simp only [Nat.zero_add]); (repeat (first | ((with_reducible refine flow_float (v := ?_) ?_ ?_ ?_); rotate_left 1; (focus (with_reducible rfl)); (focus (intro u w1 hw hd w2; (try simp only [depH] at hd); (try simp only [ext] at hd); (try simp only [extU] at hd); (try simp only [Nat.reduceAdd] at hd); (try simp only [Nat.reduceEqDiff] at hd); (try simp only [reduceIte] at hd); (try simp only [and_true] at hd); (try simp only [true_and] at hd); go_simp; exact rfl))) | ((first | ((with_reducible refine flow_pure0 (v := ?_) ?_ ?_ ?_ ?_); rotate_left 1; (focus (with_reducible rfl)); (focus rfl)) | ((with_reducible refine flow_pureg (v := ?_) (j := ?_) (b := ?_) ?_ ?_ ?_ ?_); rotate_left 3; (focus (with_reducible rfl)); (focus (intro u w1 hw hd; (try simp only [depH] at hd); (try simp only [ext] at hd); (try simp only [extU] at hd); (try simp only [Nat.reduceAdd] at hd); (try simp only [Nat.reduceEqDiff] at hd); (try simp only [reduceIte] at hd); (try simp only [and_true] at hd); (try simp only [true_and] at hd); simp [yielded, hd]; done)))); (focus (intro u w1 hw hd; (try simp only [depH] at hd); (try simp only [ext] at hd); (try simp only [extU] at hd); (try simp only [Nat.reduceAdd] at hd); (try simp only [Nat.reduceEqDiff] at hd); (try simp only [reduceIte] at hd); (try simp only [and_true] at hd); (try simp only [true_and] at hd); have hc' := hw.cell; first | (go_simp; exact rfl) | (go_simp; go_at_call 13; ((with_reducible refine (scheck_ok (hsm.call hw.ins.bel) (by omega) (by omega)).mono ?_)); rintro e w'' ⟨rfl, hb⟩; refine ⟨?_, hb⟩; exact rfl) | (go_simp; go_at_call 14; ((with_reducible refine (stext_any W3 _ _ r c f 8010 (hsm.call hw.ins.bel) hw.ins (by omega) (by omega) (by decide) htx).mono ?_)); rintro e w'' ⟨rfl, hb⟩; refine ⟨?_, hb⟩; exact rfl) | (go_simp; go_at_call 15; ((with_reducible refine (rmtext16_any _ _ r c 8010 f (hm.call hw.ins.bel) (by omega) (by omega) (by decide) HRX.out).mono ?_)); rintro e w'' ⟨rfl, hb⟩; refine ⟨?_, hb⟩; exact rfl)))) | ((with_reducible refine flow_skipg (j := ?_) (b := ?_) ?_ ?_ ?_); rotate_left 2; (focus (with_reducible rfl)); (focus (intro u w1 hw hd; (try simp only [depH] at hd); (try simp only [ext] at hd); (try simp only [extU] at hd); (try simp only [Nat.reduceAdd] at hd); (try simp only [Nat.reduceEqDiff] at hd); (try simp only [reduceIte] at hd); (try simp only [and_true] at hd); (try simp only [true_and] at hd); simp [yielded, hd]; done))) | ((with_reducible refine flow_alloc (t := ?_) (zs := ?_) ?_ ?_ ?_ ?_); rotate_left 2; (focus (with_reducible rfl)); (focus rfl); (focus (intro u w1; go_simp; exact rfl)))))
      skip
      (try clear hc hf h); intro u w' h ha hdi; replace h := h.ins; (try simp only [World.size_alloc] at h); (try dsimp only at ha); (repeat rw [World.size_alloc] at ha); (try simp only [allH] at ha); (try simp only [ext] at ha); (try simp only [extU] at ha); (try simp only [Nat.reduceAdd] at ha); (try simp only [Nat.reduceEqDiff] at ha); (try simp only [reduceIte] at ha); (try simp only [and_true] at ha); (try simp only [true_and] at ha); have hc := h.cell; have hf := h.frozen; have hb := h.bel; clear hdi hc hf; clear s0 s1 sl q0 q1 q2 ql htx; replace hin := hin.call hb; replace hB := hB.call hb; replace hm := hm.call hb; replace hown := hown.call hb; replace hsm := hsm.call hb; replace bS := bS.call hb; replace bQ := bQ.call hb; clear hb h; rename World => W4
      simp only [ha]
      clear ha
      go_upto_region 26 with fail
      skip
      by_cases h0 : n = 0
      · have hLi : Li = [] := List.length_eq_zero_iff.1 (HN.out.symm.trans h0)
        subst h0
        have hTf := HTURN.out 0
        rw [hLi] at hTf
        go_upto_region 28 with fail
        have hvv : (va = none ∧ vk = 0) ∨ ∃ G, va = some ⟨G, 0, none⟩ := by
          rcases hown.2 with ⟨hv, _⟩ | ⟨G, cap, cur, hv, _⟩
          · simp only [Value.slice.injEq] at hv; exact .inl ⟨hv.1, hv.2.2⟩
          · simp only [Value.slice.injEq] at hv; exact .inr ⟨G, hv.1⟩
        ((have q0 := bQ.c0); (have q1 := bQ.c1); (have q2 := bQ.c2); (have ql := bQ.lt))
        have h := In.self W4; have hc := h.cell; have hf := h.frozen; refine wp_region_flow 16 (by kernel_rfl) (by kernel_rfl) (fun _ _ d _ _ h => by cases d <;> exact h) ?_; simp only [List.take_succ_cons, List.take_zero, List.drop_succ_cons, List.drop_zero]; simp only [putAll, Act.put, List.setIfInBounds_toArray, List.set]; (try simp only [Nat.reduceAdd]); (try simp only [Nat.zero_add]); (repeat (first | ((with_reducible refine flow_float (v := ?_) ?_ ?_ ?_); rotate_left 1; (focus (with_reducible rfl)); (focus (intro u w1 hw hd w2; (try simp only [depH] at hd); (try simp only [ext] at hd); (try simp only [extU] at hd); (try simp only [Nat.reduceAdd] at hd); (try simp only [Nat.reduceEqDiff] at hd); (try simp only [reduceIte] at hd); (try simp only [and_true] at hd); (try simp only [true_and] at hd); go_simp; exact rfl))) | ((first | ((with_reducible refine flow_pure0 (v := ?_) ?_ ?_ ?_ ?_); rotate_left 1; (focus (with_reducible rfl)); (focus rfl)) | ((with_reducible refine flow_pureg (v := ?_) (j := ?_) (b := ?_) ?_ ?_ ?_ ?_); rotate_left 3; (focus (with_reducible rfl)); (focus (intro u w1 hw hd; (try simp only [depH] at hd); (try simp only [ext] at hd); (try simp only [extU] at hd); (try simp only [Nat.reduceAdd] at hd); (try simp only [Nat.reduceEqDiff] at hd); (try simp only [reduceIte] at hd); (try simp only [and_true] at hd); (try simp only [true_and] at hd); simp [yielded, hd]; done)))); (focus (intro u w1 hw hd; (try simp only [depH] at hd); (try simp only [ext] at hd); (try simp only [extU] at hd); (try simp only [Nat.reduceAdd] at hd); (try simp only [Nat.reduceEqDiff] at hd); (try simp only [reduceIte] at hd); (try simp only [and_true] at hd); (try simp only [true_and] at hd); have hc' := hw.cell; go_simp; exact rfl))) | ((with_reducible refine flow_skipg (j := ?_) (b := ?_) ?_ ?_ ?_); rotate_left 2; (focus (with_reducible rfl)); (focus (intro u w1 hw hd; (try simp only [depH] at hd); (try simp only [ext] at hd); (try simp only [extU] at hd); (try simp only [Nat.reduceAdd] at hd); (try simp only [Nat.reduceEqDiff] at hd); (try simp only [reduceIte] at hd); (try simp only [and_true] at hd); (try simp only [true_and] at hd); simp [yielded, hd]; done))) | ((with_reducible refine flow_alloc (t := ?_) (zs := ?_) ?_ ?_ ?_ ?_); rotate_left 2; (focus (with_reducible rfl)); (focus rfl); (focus (intro u w1; go_simp; exact rfl)))))
        (with_reducible refine flow_slice (t := 60) (zs := #[]) (n := 0) ?_ ?_ ?_ ?_); (focus (with_reducible rfl)); (focus rfl); (focus (intro u w1 hw hd; (try simp only [depH] at hd); (try simp only [ext] at hd); (try simp only [extU] at hd); (try simp only [Nat.reduceAdd] at hd); (try simp only [Nat.reduceEqDiff] at hd); (try simp only [reduceIte] at hd); (try simp only [and_true] at hd); (try simp only [true_and] at hd); (try go_simp); (try exact rfl)))
        (repeat (first | ((with_reducible refine flow_float (v := ?_) ?_ ?_ ?_); rotate_left 1; (focus (with_reducible rfl)); (focus (intro u w1 hw hd w2; (try simp only [depH] at hd); (try simp only [ext] at hd); (try simp only [extU] at hd); (try simp only [Nat.reduceAdd] at hd); (try simp only [Nat.reduceEqDiff] at hd); (try simp only [reduceIte] at hd); (try simp only [and_true] at hd); (try simp only [true_and] at hd); go_simp; exact rfl))) | ((first | ((with_reducible refine flow_pure0 (v := ?_) ?_ ?_ ?_ ?_); rotate_left 1; (focus (with_reducible rfl)); (focus rfl)) | ((with_reducible refine flow_pureg (v := ?_) (j := ?_) (b := ?_) ?_ ?_ ?_ ?_); rotate_left 3; (focus (with_reducible rfl)); (focus (intro u w1 hw hd; (try simp only [depH] at hd); (try simp only [ext] at hd); (try simp only [extU] at hd); (try simp only [Nat.reduceAdd] at hd); (try simp only [Nat.reduceEqDiff] at hd); (try simp only [reduceIte] at hd); (try simp only [and_true] at hd); (try simp only [true_and] at hd); simp [yielded, hd]; done)))); (focus (intro u w1 hw hd; (try simp only [depH] at hd); (try simp only [ext] at hd); (try simp only [extU] at hd); (try simp only [Nat.reduceAdd] at hd); (try simp only [Nat.reduceEqDiff] at hd); (try simp only [reduceIte] at hd); (try simp only [and_true] at hd); (try simp only [true_and] at hd); have hc' := hw.cell; go_simp; exact rfl))) | ((with_reducible refine flow_skipg (j := ?_) (b := ?_) ?_ ?_ ?_); rotate_left 2; (focus (with_reducible rfl)); (focus (intro u w1 hw hd; (try simp only [depH] at hd); (try simp only [ext] at hd); (try simp only [extU] at hd); (try simp only [Nat.reduceAdd] at hd); (try simp only [Nat.reduceEqDiff] at hd); (try simp only [reduceIte] at hd); (try simp only [and_true] at hd); (try simp only [true_and] at hd); simp [yielded, hd]; done))) | ((with_reducible refine flow_alloc (t := ?_) (zs := ?_) ?_ ?_ ?_ ?_); rotate_left 2; (focus (with_reducible rfl)); (focus rfl); (focus (intro u w1; go_simp; exact rfl)))))
        (with_reducible refine flow_rel (Vi := NewS W4.heap.size 60 [] 0) false ?_ ?_ ?_ ?_ ?_ ?_)
        case refine_1 => rfl
        case refine_2 => rfl
        case refine_3 => exact stable_newS _ _ _ _
        case refine_4 => exact placed_false _
        case refine_5 =>
          intro u w1 hw hd
          (try simp only [depH] at hd); (try simp only [ext] at hd); (try simp only [extU] at hd); (try simp only [Nat.reduceAdd] at hd); (try simp only [Nat.reduceEqDiff] at hd); (try simp only [reduceIte] at hd); (try simp only [and_true] at hd); (try simp only [true_and] at hd)
          obtain ⟨⟨E, e1, e2, e3⟩, e4⟩ := hd
          have e5 := app_zero (P := Tryz.prog) (t := 32) (ty := 32) Tryz.underlying32 hi0 ⟨E, 0, none⟩ va vk w1
          simp [execOp, resolve, invoke, builtin, e1, e4, Act.eval, e5, Result.andThen]
          simp only [okUpon]
          exact ⟨⟨⟨E, rfl, e2, e3⟩, fun h => by cases h⟩, St.refl _⟩
        (repeat (first | ((with_reducible refine flow_float (v := ?_) ?_ ?_ ?_); rotate_left 1; (focus (with_reducible rfl)); (focus (intro u w1 hw hd w2; (try simp only [depH] at hd); (try simp only [ext] at hd); (try simp only [extU] at hd); (try simp only [Nat.reduceAdd] at hd); (try simp only [Nat.reduceEqDiff] at hd); (try simp only [reduceIte] at hd); (try simp only [and_true] at hd); (try simp only [true_and] at hd); go_simp; exact rfl))) | ((first | ((with_reducible refine flow_pure0 (v := ?_) ?_ ?_ ?_ ?_); rotate_left 1; (focus (with_reducible rfl)); (focus rfl)) | ((with_reducible refine flow_pureg (v := ?_) (j := ?_) (b := ?_) ?_ ?_ ?_ ?_); rotate_left 3; (focus (with_reducible rfl)); (focus (intro u w1 hw hd; (try simp only [depH] at hd); (try simp only [ext] at hd); (try simp only [extU] at hd); (try simp only [Nat.reduceAdd] at hd); (try simp only [Nat.reduceEqDiff] at hd); (try simp only [reduceIte] at hd); (try simp only [and_true] at hd); (try simp only [true_and] at hd); simp [yielded, hd]; done)))); (focus (intro u w1 hw hd; (try simp only [depH] at hd); (try simp only [ext] at hd); (try simp only [extU] at hd); (try simp only [Nat.reduceAdd] at hd); (try simp only [Nat.reduceEqDiff] at hd); (try simp only [reduceIte] at hd); (try simp only [and_true] at hd); (try simp only [true_and] at hd); have hc' := hw.cell; go_simp; exact rfl))) | ((with_reducible refine flow_skipg (j := ?_) (b := ?_) ?_ ?_ ?_); rotate_left 2; (focus (with_reducible rfl)); (focus (intro u w1 hw hd; (try simp only [depH] at hd); (try simp only [ext] at hd); (try simp only [extU] at hd); (try simp only [Nat.reduceAdd] at hd); (try simp only [Nat.reduceEqDiff] at hd); (try simp only [reduceIte] at hd); (try simp only [and_true] at hd); (try simp only [true_and] at hd); simp [yielded, hd]; done))) | ((with_reducible refine flow_alloc (t := ?_) (zs := ?_) ?_ ?_ ?_ ?_); rotate_left 2; (focus (with_reducible rfl)); (focus rfl); (focus (intro u w1; go_simp; exact rfl)))))
        (with_reducible refine flow_rel (Vi := NewS W4.heap.size 60 [] 0) false ?_ ?_ ?_ ?_ ?_ ?_)
        case refine_1 => rfl
        case refine_2 => rfl
        case refine_3 => exact stable_newS _ _ _ _
        case refine_4 => exact placed_false _
        case refine_5 =>
          intro u w1 hw hd
          (try simp only [depH] at hd); (try simp only [ext] at hd); (try simp only [extU] at hd); (try simp only [Nat.reduceAdd] at hd); (try simp only [Nat.reduceEqDiff] at hd); (try simp only [reduceIte] at hd); (try simp only [and_true] at hd); (try simp only [true_and] at hd)
          obtain ⟨⟨E, e1, e2, e3⟩, e4, _⟩ := hd
          have e5 := app_zero (P := Tryz.prog) (t := 32) (ty := 32) Tryz.underlying32 hi0 ⟨E, 0, none⟩ va vk w1
          simp [execOp, resolve, invoke, builtin, e1, e4, Act.eval, e5, Result.andThen]
          simp only [okUpon]
          exact ⟨⟨⟨E, rfl, e2, e3⟩, fun h => by cases h⟩, St.refl _⟩
        (with_reducible refine flow_rel (Vi := TupR (fun d e w => e = 0 ∧ SpN w W4.heap.size d r c f)) false ?_ ?_ ?_ ?_ ?_ ?_)
        case refine_1 => rfl
        case refine_2 => rfl
        case refine_3 => exact stable_tup fun d e w w' h hs => ⟨h.1, h.2.call hs⟩
        case refine_4 => exact placed_false _
        case refine_5 =>
          intro u w1 hw hd
          (try simp only [depH] at hd); (try simp only [ext] at hd); (try simp only [extU] at hd); (try simp only [Nat.reduceAdd] at hd); (try simp only [Nat.reduceEqDiff] at hd); (try simp only [reduceIte] at hd); (try simp only [and_true] at hd); (try simp only [true_and] at hd)
          obtain ⟨d1, d2, ⟨E, d3, d4, d5⟩, _⟩ := hd
          have cof2 := of_none (B := W4.heap.size) (r := r) (c := c) (f := f) d4 d5 hr6 hc6 hTf hw.ins.siz
          go_simp
          (try simp only [okUpon])
          go_at_call 16
          ((with_reducible refine cof2.mono ?_))
          rintro e w'' ⟨⟨v, rfl, hv⟩, hb⟩
          exact ⟨v, rfl, ⟨hv, fun h => by cases h⟩, hb⟩
        (((with_reducible refine flow_link (k := 11) (R := MvR) ?_ ?_ ?_ ?_); (focus rfl); (focus rfl); (focus (intro u w1 hw hd; (try simp only [depH] at hd); (try simp only [ext] at hd); (try simp only [extU] at hd); (try simp only [Nat.reduceAdd] at hd); (try simp only [Nat.reduceEqDiff] at hd); (try simp only [reduceIte] at hd); (try simp only [and_true] at hd); (try simp only [true_and] at hd); obtain ⟨⟨n, m, a, l, k, e, h3⟩, _⟩ := hd; exact ⟨u 11, fun w2 => (by go_simp), rfl, n, m, a, l, k, e, h3⟩))); ((with_reducible refine flow_link (k := 12) (R := FstR) ?_ ?_ ?_ ?_); (focus rfl); (focus rfl); (focus (intro u w1 hw hd; (try simp only [depH] at hd); (try simp only [ext] at hd); (try simp only [extU] at hd); (try simp only [Nat.reduceAdd] at hd); (try simp only [Nat.reduceEqDiff] at hd); (try simp only [reduceIte] at hd); (try simp only [and_true] at hd); (try simp only [true_and] at hd); obtain ⟨h4, n, m, a, l, k, e, h5⟩ := hd; exact ⟨.agg #[.int .i64 n, .int .i64 m, .slice a l k], fun w2 => (by clear h4; go_simp), n, m, a, l, k, e, h5, rfl⟩))); ((with_reducible refine flow_link (k := 12) (R := SndR) ?_ ?_ ?_ ?_); (focus rfl); (focus rfl); (focus (intro u w1 hw hd; (try simp only [depH] at hd); (try simp only [ext] at hd); (try simp only [extU] at hd); (try simp only [Nat.reduceAdd] at hd); (try simp only [Nat.reduceEqDiff] at hd); (try simp only [reduceIte] at hd); (try simp only [and_true] at hd); (try simp only [true_and] at hd); obtain ⟨h4, n, m, a, l, k, e, h5⟩ := hd; exact ⟨.int .i64 e, fun w2 => (by clear h4; go_simp), n, m, a, l, k, e, h5, rfl⟩))))
        (repeat (first | ((with_reducible refine flow_float (v := ?_) ?_ ?_ ?_); rotate_left 1; (focus (with_reducible rfl)); (focus (intro u w1 hw hd w2; (try simp only [depH] at hd); (try simp only [ext] at hd); (try simp only [extU] at hd); (try simp only [Nat.reduceAdd] at hd); (try simp only [Nat.reduceEqDiff] at hd); (try simp only [reduceIte] at hd); (try simp only [and_true] at hd); (try simp only [true_and] at hd); go_simp; exact rfl))) | ((first | ((with_reducible refine flow_pure0 (v := ?_) ?_ ?_ ?_ ?_); rotate_left 1; (focus (with_reducible rfl)); (focus rfl)) | ((with_reducible refine flow_pureg (v := ?_) (j := ?_) (b := ?_) ?_ ?_ ?_ ?_); rotate_left 3; (focus (with_reducible rfl)); (focus (intro u w1 hw hd; (try simp only [depH] at hd); (try simp only [ext] at hd); (try simp only [extU] at hd); (try simp only [Nat.reduceAdd] at hd); (try simp only [Nat.reduceEqDiff] at hd); (try simp only [reduceIte] at hd); (try simp only [and_true] at hd); (try simp only [true_and] at hd); simp [yielded, hd]; done)))); (focus (intro u w1 hw hd; (try simp only [depH] at hd); (try simp only [ext] at hd); (try simp only [extU] at hd); (try simp only [Nat.reduceAdd] at hd); (try simp only [Nat.reduceEqDiff] at hd); (try simp only [reduceIte] at hd); (try simp only [and_true] at hd); (try simp only [true_and] at hd); have hc' := hw.cell; go_simp; exact rfl))) | ((with_reducible refine flow_skipg (j := ?_) (b := ?_) ?_ ?_ ?_); rotate_left 2; (focus (with_reducible rfl)); (focus (intro u w1 hw hd; (try simp only [depH] at hd); (try simp only [ext] at hd); (try simp only [extU] at hd); (try simp only [Nat.reduceAdd] at hd); (try simp only [Nat.reduceEqDiff] at hd); (try simp only [reduceIte] at hd); (try simp only [and_true] at hd); (try simp only [true_and] at hd); simp [yielded, hd]; done))) | ((with_reducible refine flow_alloc (t := ?_) (zs := ?_) ?_ ?_ ?_ ?_); rotate_left 2; (focus (with_reducible rfl)); (focus rfl); (focus (intro u w1; go_simp; exact rfl)))))
        (try clear hc hf h); intro u w' h ha hdi; replace h := h.ins; (try simp only [World.size_alloc] at h); (try dsimp only at ha); (repeat rw [World.size_alloc] at ha); (try simp only [allH] at ha); (try simp only [ext] at ha); (try simp only [extU] at ha); (try simp only [Nat.reduceAdd] at ha); (try simp only [Nat.reduceEqDiff] at ha); (try simp only [reduceIte] at ha); (try simp only [and_true] at ha); (try simp only [true_and] at ha); have hc := h.cell; have hf := h.frozen; clear hdi hc hf; rename World => wf
        (try simp only [ext, Nat.reduceEqDiff, reduceIte] at ha)
        obtain ⟨⟨⟨⟨⟨hA, htup⟩, hmv⟩, hfst⟩, hsnd⟩, E, hu, hE, bE⟩ := ha
        obtain ⟨n1, m1, a9, l9, k9, e9, hx1, hx2, h13, h14, he9, hsp⟩ := tup_out htup hmv hfst hsnd
        subst he9
        obtain ⟨ra2, rk2, hagg⟩ := (SpN.m hsp).shape
        rw [hagg] at hsp h13
        (try dsimp only)
        simp only [hA, h13, h14, hu]
        clear hA h13 h14 hu htup hmv hfst hsnd hx1 hx2 hagg
        have KM := Lib.hid (((hsp.setTy (j := 0) (x := .int .i64 (r : Nat)) bE (by decide) (by decide)).setTy (j := 1) (x := .int .i64 (c : Nat)) (bE.set 0 (.int .i64 (r : Nat))) (by decide) (by decide)).setTy (j := 2) (x := .slice ra2 r rk2) ((bE.set 0 (.int .i64 (r : Nat))).set 1 (.int .i64 (c : Nat))) (by decide) (by decide))
        clear hsp
        skip
        ((have p0 := bE.c0); (have p1 := bE.c1); (have p2 := bE.c2); (have pf0 := bE.frozen 0); (have pf1 := bE.frozen 1); (have pf2 := bE.frozen 2); (have pl := bE.lt); (have KS := Lib.hid (((bE.set 0 (.int .i64 r)).set 1 (.int .i64 c)).set 2 (.slice ra2 r rk2))); (have KH := Lib.hid (((h.setCell (p := ⟨E, 0, none⟩) (by first | exact hE | (simp; omega)) (.int .i64 r)).setCell (p := ⟨E, 1, none⟩) (by first | exact hE | (simp; omega)) (.int .i64 c)).setCell (p := ⟨E, 2, none⟩) (by first | exact hE | (simp; omega)) (.slice ra2 r rk2))); (clear h bE); (go_upto_region 29 with fail); (have hb := KH.out.bel); (have bE := KS.out); (simp only [List.set] at bE); (clear q0 q1 q2 ql); (replace hin := hin.call hb); (replace hB := hB.call hb); (replace hm := hm.call hb); (replace hown := hown.call hb); (replace hsm := hsm.call hb); (replace bS := bS.call hb); (replace bQ := bQ.call hb); (clear KS KH hb pl p0 p1 p2 pf0 pf1 pf2); (generalize ((wf.setCell ⟨E, 0, none⟩ (.int .i64 r)).setCell ⟨E, 1, none⟩ (.int .i64 c)).setCell ⟨E, 2, none⟩ (.slice ra2 r rk2) = W5 at *))
        have hsm2 := SpN.m KM.out
        clear KM
        skip
        ((have q0 := bQ.c0); (have q1 := bQ.c1); (have q2 := bQ.c2); (have ql := bQ.lt))
        ((have z0 := bE.c0); (have z1 := bE.c1); (have z2 := bE.c2); (have zl := bE.lt))
        have hss := sameM_self (r := r) (c := c) (f := f) (g := f) (fun _ _ _ _ => rfl)
        have csm := fun W v1 v2 (h1 : SpM W v1 r c f) (h2 : SpM W v2 r c f) => ssame_ok h1 h2 (by omega) (by omega)
        rw [hss] at csm
        have csp2 := fun W (h : BB W (b + 1) b i r c f) => (bsparse_any W (b + 1) b i r c f h (by omega) (by omega)).mono fun e w' ⟨v, h1, h2, h3⟩ => (⟨⟨v, h1, SpN.m h2⟩, h3⟩ : (∃ v, e = Ending.returned v ∧ SpM w' v r c f) ∧ Below W.heap.size W w')
        have h := In.self W5; have hc := h.cell; have hf := h.frozen; refine wp_region_flow 16 (by kernel_rfl) (by kernel_rfl) (fun _ _ d _ _ h => by cases d <;> exact h) ?_; simp only [List.take_succ_cons, List.take_zero, List.drop_succ_cons, List.drop_zero]; simp only [putAll, Act.put, List.setIfInBounds_toArray, List.set]; (try simp only [Nat.reduceAdd]); (try simp only [Nat.zero_add]); (repeat (first | ((with_reducible refine flow_float (v := ?_) ?_ ?_ ?_); rotate_left 1; (focus (with_reducible rfl)); (focus (intro u w1 hw hd w2; (try simp only [depH] at hd); (try simp only [ext] at hd); (try simp only [extU] at hd); (try simp only [Nat.reduceAdd] at hd); (try simp only [Nat.reduceEqDiff] at hd); (try simp only [reduceIte] at hd); (try simp only [and_true] at hd); (try simp only [true_and] at hd); go_simp; exact rfl))) | ((first | ((with_reducible refine flow_pure0 (v := ?_) ?_ ?_ ?_ ?_); rotate_left 1; (focus (with_reducible rfl)); (focus rfl)) | ((with_reducible refine flow_pureg (v := ?_) (j := ?_) (b := ?_) ?_ ?_ ?_ ?_); rotate_left 3; (focus (with_reducible rfl)); (focus (intro u w1 hw hd; (try simp only [depH] at hd); (try simp only [ext] at hd); (try simp only [extU] at hd); (try simp only [Nat.reduceAdd] at hd); (try simp only [Nat.reduceEqDiff] at hd); (try simp only [reduceIte] at hd); (try simp only [and_true] at hd); (try simp only [true_and] at hd); simp [yielded, hd]; done)))); (focus (intro u w1 hw hd; (try simp only [depH] at hd); (try simp only [ext] at hd); (try simp only [extU] at hd); (try simp only [Nat.reduceAdd] at hd); (try simp only [Nat.reduceEqDiff] at hd); (try simp only [reduceIte] at hd); (try simp only [and_true] at hd); (try simp only [true_and] at hd); have hc' := hw.cell; first | (go_simp; exact rfl) | (go_simp; go_at_call 17; ((with_reducible refine (csm _ _ _ (hsm2.call hw.ins.bel) (hsm.call hw.ins.bel)).mono ?_)); rintro e w'' ⟨rfl, hb⟩; refine ⟨?_, hb⟩; exact rfl)))) | ((with_reducible refine flow_skipg (j := ?_) (b := ?_) ?_ ?_ ?_); rotate_left 2; (focus (with_reducible rfl)); (focus (intro u w1 hw hd; (try simp only [depH] at hd); (try simp only [ext] at hd); (try simp only [extU] at hd); (try simp only [Nat.reduceAdd] at hd); (try simp only [Nat.reduceEqDiff] at hd); (try simp only [reduceIte] at hd); (try simp only [and_true] at hd); (try simp only [true_and] at hd); simp [yielded, hd]; done))) | ((with_reducible refine flow_alloc (t := ?_) (zs := ?_) ?_ ?_ ?_ ?_); rotate_left 2; (focus (with_reducible rfl)); (focus rfl); (focus (intro u w1; go_simp; exact rfl)))))
        (with_reducible refine flow_relg (Vi := fun x W => SpM W x r c f) (j := ?_) (b := ?_) ?_ ?_ ?_ ?_ ?_); rotate_left 2; (focus (with_reducible rfl)); (focus (intro u w1 hw hd; (try simp only [depH] at hd); (try simp only [ext] at hd); (try simp only [extU] at hd); (try simp only [Nat.reduceAdd] at hd); (try simp only [Nat.reduceEqDiff] at hd); (try simp only [reduceIte] at hd); (try simp only [and_true] at hd); (try simp only [true_and] at hd); simp [yielded, hd]; done)); (focus exact stable_spm _ _ _); (focus (intro u w1 hw hd; (try simp only [depH] at hd); (try simp only [ext] at hd); (try simp only [extU] at hd); (try simp only [Nat.reduceAdd] at hd); (try simp only [Nat.reduceEqDiff] at hd); (try simp only [reduceIte] at hd); (try simp only [and_true] at hd); (try simp only [true_and] at hd); have hc' := hw.cell; go_simp; (try simp only [okUpon]); go_at_call 12; ((with_reducible refine (csp2 _ (hB.call hw.ins.bel)).mono ?_)); rintro e w'' ⟨⟨v, rfl, hv⟩, hb⟩; exact ⟨v, rfl, ⟨hv, fun h => by cases h⟩, hb⟩))
        (repeat (first | ((with_reducible refine flow_float (v := ?_) ?_ ?_ ?_); rotate_left 1; (focus (with_reducible rfl)); (focus (intro u w1 hw hd w2; (try simp only [depH] at hd); (try simp only [ext] at hd); (try simp only [extU] at hd); (try simp only [Nat.reduceAdd] at hd); (try simp only [Nat.reduceEqDiff] at hd); (try simp only [reduceIte] at hd); (try simp only [and_true] at hd); (try simp only [true_and] at hd); go_simp; exact rfl))) | ((first | ((with_reducible refine flow_pure0 (v := ?_) ?_ ?_ ?_ ?_); rotate_left 1; (focus (with_reducible rfl)); (focus rfl)) | ((with_reducible refine flow_pureg (v := ?_) (j := ?_) (b := ?_) ?_ ?_ ?_ ?_); rotate_left 3; (focus (with_reducible rfl)); (focus (intro u w1 hw hd; (try simp only [depH] at hd); (try simp only [ext] at hd); (try simp only [extU] at hd); (try simp only [Nat.reduceAdd] at hd); (try simp only [Nat.reduceEqDiff] at hd); (try simp only [reduceIte] at hd); (try simp only [and_true] at hd); (try simp only [true_and] at hd); simp [yielded, hd]; done)))); (focus (intro u w1 hw hd; (try simp only [depH] at hd); (try simp only [ext] at hd); (try simp only [extU] at hd); (try simp only [Nat.reduceAdd] at hd); (try simp only [Nat.reduceEqDiff] at hd); (try simp only [reduceIte] at hd); (try simp only [and_true] at hd); (try simp only [true_and] at hd); have hc' := hw.cell; go_simp; exact rfl))) | ((with_reducible refine flow_skipg (j := ?_) (b := ?_) ?_ ?_ ?_); rotate_left 2; (focus (with_reducible rfl)); (focus (intro u w1 hw hd; (try simp only [depH] at hd); (try simp only [ext] at hd); (try simp only [extU] at hd); (try simp only [Nat.reduceAdd] at hd); (try simp only [Nat.reduceEqDiff] at hd); (try simp only [reduceIte] at hd); (try simp only [and_true] at hd); (try simp only [true_and] at hd); simp [yielded, hd]; done))) | ((with_reducible refine flow_alloc (t := ?_) (zs := ?_) ?_ ?_ ?_ ?_); rotate_left 2; (focus (with_reducible rfl)); (focus rfl); (focus (intro u w1; go_simp; exact rfl)))))
        ((with_reducible refine flow_pureg (v := .bool true) (j := ?_) (b := ?_) ?_ ?_ ?_ ?_); rotate_left 2; (focus (with_reducible rfl)); (focus (intro u w1 hw hd; (try simp only [depH] at hd); (try simp only [ext] at hd); (try simp only [extU] at hd); (try simp only [Nat.reduceAdd] at hd); (try simp only [Nat.reduceEqDiff] at hd); (try simp only [reduceIte] at hd); (try simp only [and_true] at hd); (try simp only [true_and] at hd); simp [yielded, hd]; done)); (focus (intro u w1 hw hd; (try simp only [depH] at hd); (try simp only [ext] at hd); (try simp only [extU] at hd); (try simp only [Nat.reduceAdd] at hd); (try simp only [Nat.reduceEqDiff] at hd); (try simp only [reduceIte] at hd); (try simp only [and_true] at hd); (try simp only [true_and] at hd); obtain ⟨hd1, hd2, _⟩ := hd; go_simp; go_at_call 17; refine (csm _ _ _ hd1 (hsm.call hw.ins.bel)).mono ?_; rintro e w'' ⟨rfl, hb⟩; exact ⟨rfl, hb⟩)))
        (repeat (first | ((with_reducible refine flow_float (v := ?_) ?_ ?_ ?_); rotate_left 1; (focus (with_reducible rfl)); (focus (intro u w1 hw hd w2; (try simp only [depH] at hd); (try simp only [ext] at hd); (try simp only [extU] at hd); (try simp only [Nat.reduceAdd] at hd); (try simp only [Nat.reduceEqDiff] at hd); (try simp only [reduceIte] at hd); (try simp only [and_true] at hd); (try simp only [true_and] at hd); go_simp; exact rfl))) | ((first | ((with_reducible refine flow_pure0 (v := ?_) ?_ ?_ ?_ ?_); rotate_left 1; (focus (with_reducible rfl)); (focus rfl)) | ((with_reducible refine flow_pureg (v := ?_) (j := ?_) (b := ?_) ?_ ?_ ?_ ?_); rotate_left 3; (focus (with_reducible rfl)); (focus (intro u w1 hw hd; (try simp only [depH] at hd); (try simp only [ext] at hd); (try simp only [extU] at hd); (try simp only [Nat.reduceAdd] at hd); (try simp only [Nat.reduceEqDiff] at hd); (try simp only [reduceIte] at hd); (try simp only [and_true] at hd); (try simp only [true_and] at hd); simp [yielded, hd]; done)))); (focus (intro u w1 hw hd; (try simp only [depH] at hd); (try simp only [ext] at hd); (try simp only [extU] at hd); (try simp only [Nat.reduceAdd] at hd); (try simp only [Nat.reduceEqDiff] at hd); (try simp only [reduceIte] at hd); (try simp only [and_true] at hd); (try simp only [true_and] at hd); have hc' := hw.cell; first | (go_simp; exact rfl) | (go_simp; go_at_call 4; ((with_reducible refine (cz _).mono ?_)); rintro e w'' ⟨rfl, hb⟩; refine ⟨?_, hb⟩; exact rfl)))) | ((with_reducible refine flow_skipg (j := ?_) (b := ?_) ?_ ?_ ?_); rotate_left 2; (focus (with_reducible rfl)); (focus (intro u w1 hw hd; (try simp only [depH] at hd); (try simp only [ext] at hd); (try simp only [extU] at hd); (try simp only [Nat.reduceAdd] at hd); (try simp only [Nat.reduceEqDiff] at hd); (try simp only [reduceIte] at hd); (try simp only [and_true] at hd); (try simp only [true_and] at hd); simp [yielded, hd]; done))) | ((with_reducible refine flow_alloc (t := ?_) (zs := ?_) ?_ ?_ ?_ ?_); rotate_left 2; (focus (with_reducible rfl)); (focus rfl); (focus (intro u w1; go_simp; exact rfl)))))
        (try clear hc hf h); intro u w' h ha hdi; replace h := h.ins; (try simp only [World.size_alloc] at h); (try dsimp only at ha); (repeat rw [World.size_alloc] at ha); (try simp only [allH] at ha); (try simp only [ext] at ha); (try simp only [extU] at ha); (try simp only [Nat.reduceAdd] at ha); (try simp only [Nat.reduceEqDiff] at ha); (try simp only [reduceIte] at ha); (try simp only [and_true] at ha); (try simp only [true_and] at ha); have hc := h.cell; have hf := h.frozen
        (try obtain ha := ha); (try dsimp only);  simp only [ha]; clear ha hdi 
        have hfin := hin.call h.bel
        clear hc hf h hin
        go_wp2_with fail
        go_ret
        exact ⟨rfl, by rw [← HX.out]; exact hfin.bel⟩
      · skip
        have hn0I : (0 : Int) < n := by omega
        have hnz : ¬ (n : Int) = 0 := by omega
        have hwT : IntKind.i64.wrap (T : Int) = (T : Int) := IntWalk.i64_in _ (by omega)
        obtain ⟨k, hk⟩ : ∃ k, k = T % n := ⟨_, rfl⟩
        have hpm : (T : Int).tmod n = (k : Int) := by rw [hk]; rfl
        have hkn : k < n := by rw [hk]; exact Nat.mod_lt _ (by omega)
        have hwk : IntKind.i64.wrap (k : Int) = (k : Int) := IntWalk.i64_in _ (by omega)
        clear hk
        go_upto_region 28 with fail
        have hknI : (k : Int) ≤ n := by omega
        have hk0I : (0 : Int) ≤ k := by omega
        rcases hown.2 with ⟨_, h00⟩ | ⟨G, cap, cur, hv, hSG, hG, hnc, hcm, hcs, htk⟩
        · exact absurd (HN.out.trans h00) h0
        simp only [Value.slice.injEq] at hv
        obtain ⟨rfl, _, rfl⟩ := hv
        rw [← HN.out] at hnc htk
        have HOW := Lib.hid (show W4.ownsRow (S + 1) 60 7 (.slice (some ⟨G, 0, none⟩) n vk) n (itl Li) by rw [HN.out]; exact hown)
        clear hcs htk hG
        have hncI : (n : Int) ≤ vk := by omega
        have hkcI : (k : Int) ≤ vk := by omega
        obtain ⟨tk, htk⟩ : ∃ tk, tk = itl (Li.take k) := ⟨_, rfl⟩
        have HTK := Lib.hid htk
        obtain ⟨p, hp0, hpT, hpm7, hptk⟩ : ∃ p : FlS.Par, p.B0 = W4.heap.size ∧ p.T = 60 ∧ p.m = (n - k) * 7 ∧ p.tk = tk := ⟨⟨W4.heap.size, _, _, _⟩, rfl, rfl, rfl, rfl⟩
        have hpB : W4.heap.size ≤ p.B0 := by rw [hp0]; exact Nat.le_refl _
        have htl : tk.length = k * 7 := by rw [htk, itl_length, List.length_take, ← HN.out]; omega
        have hdl : (itl (Li.drop k)).length = (n - k) * 7 := by rw [itl_length, List.length_drop, ← HN.out]
        have hnk : n - k + k = n := by omega
        clear htk
        have hvk : ¬ vk = k := by omega
        have hBS : W4.heap.size ≤ W4.heap.size := Nat.le_refl _
        have HI0 := Lib.hid (And.intro hi0 (And.intro hi1 (And.intro hi2 hi3)))
        have HGL : Hid (G < W4.heap.size) := Lib.hid (HOW.out.lt G rfl).2
        clear hi0 hi1 hi2 hi3
        ((have q0 := bQ.c0); (have q1 := bQ.c1); (have q2 := bQ.c2); (have ql := bQ.lt))
        have h := In.self W4; have hc := h.cell; have hf := h.frozen; refine FlS.wp_region_flow 16 (by kernel_rfl) (by kernel_rfl) (fun _ _ d _ _ h => by cases d <;> exact h) ?_; simp only [List.take_succ_cons, List.take_zero, List.drop_succ_cons, List.drop_zero]; simp only [putAll, Act.put, List.setIfInBounds_toArray, List.set]; (try simp only [Nat.reduceAdd]); (try simp only [Nat.zero_add]); (repeat (first | ((with_reducible refine FlS.flow_float (v := ?_) ?_ ?_ ?_); rotate_left 1; (focus (with_reducible rfl)); (focus (intro u w1 hw hd w2; (try simp only [depH] at hd); (try simp only [ext] at hd); (try simp only [extU] at hd); (try simp only [Nat.reduceAdd] at hd); (try simp only [Nat.reduceEqDiff] at hd); (try simp only [reduceIte] at hd); (try simp only [and_true] at hd); (try simp only [true_and] at hd); go_simp; exact rfl))) | ((first | ((with_reducible refine FlS.flow_pure0 (v := ?_) ?_ ?_ ?_ ?_); rotate_left 1; (focus (with_reducible rfl)); (focus rfl)) | ((with_reducible refine FlS.flow_pureg (v := ?_) (j := ?_) (b := ?_) ?_ ?_ ?_ ?_); rotate_left 3; (focus (with_reducible rfl)); (focus (intro u w1 hw hd; (try simp only [depH] at hd); (try simp only [ext] at hd); (try simp only [extU] at hd); (try simp only [Nat.reduceAdd] at hd); (try simp only [Nat.reduceEqDiff] at hd); (try simp only [reduceIte] at hd); (try simp only [and_true] at hd); (try simp only [true_and] at hd); simp [yielded, hd]; done)))); (focus (intro u w1 hw hd; (try simp only [depH] at hd); (try simp only [ext] at hd); (try simp only [extU] at hd); (try simp only [Nat.reduceAdd] at hd); (try simp only [Nat.reduceEqDiff] at hd); (try simp only [reduceIte] at hd); (try simp only [and_true] at hd); (try simp only [true_and] at hd); have hc' := hw.cell; go_simp; exact rfl))) | ((with_reducible refine FlS.flow_skipg (j := ?_) (b := ?_) ?_ ?_ ?_); rotate_left 2; (focus (with_reducible rfl)); (focus (intro u w1 hw hd; (try simp only [depH] at hd); (try simp only [ext] at hd); (try simp only [extU] at hd); (try simp only [Nat.reduceAdd] at hd); (try simp only [Nat.reduceEqDiff] at hd); (try simp only [reduceIte] at hd); (try simp only [and_true] at hd); (try simp only [true_and] at hd); simp [yielded, hd]; done))) | ((with_reducible refine FlS.flow_alloc (t := ?_) (zs := ?_) ?_ ?_ ?_ ?_); rotate_left 2; (focus (with_reducible rfl)); (focus rfl); (focus (intro u w1; go_simp; exact rfl)))))
        (with_reducible refine FlS.flow_slice0 (t := 60) (zs := #[]) (n := 0) ?_ ?_ ?_ ?_); (focus (with_reducible rfl)); (focus rfl); (focus (intro u w1 hw hd; (try simp only [depH] at hd); (try simp only [ext] at hd); (try simp only [extU] at hd); (try simp only [Nat.reduceAdd] at hd); (try simp only [Nat.reduceEqDiff] at hd); (try simp only [reduceIte] at hd); (try simp only [and_true] at hd); (try simp only [true_and] at hd); (try go_simp); (try exact rfl)))
        (repeat (first | ((with_reducible refine FlS.flow_float (v := ?_) ?_ ?_ ?_); rotate_left 1; (focus (with_reducible rfl)); (focus (intro u w1 hw hd w2; (try simp only [depH] at hd); (try simp only [ext] at hd); (try simp only [extU] at hd); (try simp only [Nat.reduceAdd] at hd); (try simp only [Nat.reduceEqDiff] at hd); (try simp only [reduceIte] at hd); (try simp only [and_true] at hd); (try simp only [true_and] at hd); go_simp; exact rfl))) | ((first | ((with_reducible refine FlS.flow_pure0 (v := ?_) ?_ ?_ ?_ ?_); rotate_left 1; (focus (with_reducible rfl)); (focus rfl)) | ((with_reducible refine FlS.flow_pureg (v := ?_) (j := ?_) (b := ?_) ?_ ?_ ?_ ?_); rotate_left 3; (focus (with_reducible rfl)); (focus (intro u w1 hw hd; (try simp only [depH] at hd); (try simp only [ext] at hd); (try simp only [extU] at hd); (try simp only [Nat.reduceAdd] at hd); (try simp only [Nat.reduceEqDiff] at hd); (try simp only [reduceIte] at hd); (try simp only [and_true] at hd); (try simp only [true_and] at hd); simp [yielded, hd]; done)))); (focus (intro u w1 hw hd; (try simp only [depH] at hd); (try simp only [ext] at hd); (try simp only [extU] at hd); (try simp only [Nat.reduceAdd] at hd); (try simp only [Nat.reduceEqDiff] at hd); (try simp only [reduceIte] at hd); (try simp only [and_true] at hd); (try simp only [true_and] at hd); have hc' := hw.cell; go_simp; exact rfl))) | ((with_reducible refine FlS.flow_skipg (j := ?_) (b := ?_) ?_ ?_ ?_); rotate_left 2; (focus (with_reducible rfl)); (focus (intro u w1 hw hd; (try simp only [depH] at hd); (try simp only [ext] at hd); (try simp only [extU] at hd); (try simp only [Nat.reduceAdd] at hd); (try simp only [Nat.reduceEqDiff] at hd); (try simp only [reduceIte] at hd); (try simp only [and_true] at hd); (try simp only [true_and] at hd); simp [yielded, hd]; done))) | ((with_reducible refine FlS.flow_alloc (t := ?_) (zs := ?_) ?_ ?_ ?_ ?_); rotate_left 2; (focus (with_reducible rfl)); (focus rfl); (focus (intro u w1; go_simp; exact rfl)))))
        (with_reducible refine FlS.flow_rel (Vi := fun x w => w.ownsRow W4.heap.size 60 7 x (n - k) (itl (Li.drop k))) false ?_ ?_ ?_ ?_ ?_ ?_)
        case refine_1 => rfl
        case refine_2 => rfl
        case refine_3 => exact FlS.stable_head hpT hpm7.symm
        case refine_4 => exact placed_false _
        case refine_5 =>
          intro u w1 hw hd
          (try simp only [depH] at hd); (try simp only [ext] at hd); (try simp only [extU] at hd); (try simp only [Nat.reduceAdd] at hd); (try simp only [Nat.reduceEqDiff] at hd); (try simp only [reduceIte] at hd); (try simp only [and_true] at hd); (try simp only [true_and] at hd)
          obtain ⟨⟨E, e1⟩, e2⟩ := hd
          have hw1 := hw.ins hpB
          obtain ⟨v', w2, hrun, hown2, hgr⟩ := run_append_arg_grows (P := Tryz.prog) (w := w1) 32 32 60 i0 _ 7 72 Tryz.underlying32 HI0.out.1 HI0.out.2.1 HI0.out.2.2.1 HI0.out.2.2.2 rfl (by decide) ⟨E, 0, none⟩ 0 0 [] rfl (fun j u h => by simp at h) ⟨G, k * 7, none⟩ (n - k) (vk - k) (itl (Li.drop k)) hdl (fun j u hj => keepCell hw1.bel (OwnI.cellsD HOW.out (by rw [← HN.out]; omega) j u hj)) (by omega) (by simp only [maxLen]; omega) (by omega)
          simp only [Nat.zero_add, List.nil_append] at hown2
          have hown3 := own_low hown2 hw1.siz
          simp [execOp, resolve, invoke, builtin, e1, e2, Act.eval, hrun, Result.andThen]
          simp only [FlS.okUpon]
          exact ⟨⟨hown3, fun h => by cases h⟩, .of_below ⟨hgr.os, hgr.tape, hgr.output, hgr.size, fun k hk => hgr.block k hk (by simp)⟩⟩
        (repeat (first | ((with_reducible refine FlS.flow_float (v := ?_) ?_ ?_ ?_); rotate_left 1; (focus (with_reducible rfl)); (focus (intro u w1 hw hd w2; (try simp only [depH] at hd); (try simp only [ext] at hd); (try simp only [extU] at hd); (try simp only [Nat.reduceAdd] at hd); (try simp only [Nat.reduceEqDiff] at hd); (try simp only [reduceIte] at hd); (try simp only [and_true] at hd); (try simp only [true_and] at hd); go_simp; exact rfl))) | ((first | ((with_reducible refine FlS.flow_pure0 (v := ?_) ?_ ?_ ?_ ?_); rotate_left 1; (focus (with_reducible rfl)); (focus rfl)) | ((with_reducible refine FlS.flow_pureg (v := ?_) (j := ?_) (b := ?_) ?_ ?_ ?_ ?_); rotate_left 3; (focus (with_reducible rfl)); (focus (intro u w1 hw hd; (try simp only [depH] at hd); (try simp only [ext] at hd); (try simp only [extU] at hd); (try simp only [Nat.reduceAdd] at hd); (try simp only [Nat.reduceEqDiff] at hd); (try simp only [reduceIte] at hd); (try simp only [and_true] at hd); (try simp only [true_and] at hd); simp [yielded, hd]; done)))); (focus (intro u w1 hw hd; (try simp only [depH] at hd); (try simp only [ext] at hd); (try simp only [extU] at hd); (try simp only [Nat.reduceAdd] at hd); (try simp only [Nat.reduceEqDiff] at hd); (try simp only [reduceIte] at hd); (try simp only [and_true] at hd); (try simp only [true_and] at hd); have hc' := hw.cell; go_simp; exact rfl))) | ((with_reducible refine FlS.flow_skipg (j := ?_) (b := ?_) ?_ ?_ ?_); rotate_left 2; (focus (with_reducible rfl)); (focus (intro u w1 hw hd; (try simp only [depH] at hd); (try simp only [ext] at hd); (try simp only [extU] at hd); (try simp only [Nat.reduceAdd] at hd); (try simp only [Nat.reduceEqDiff] at hd); (try simp only [reduceIte] at hd); (try simp only [and_true] at hd); (try simp only [true_and] at hd); simp [yielded, hd]; done))) | ((with_reducible refine FlS.flow_alloc (t := ?_) (zs := ?_) ?_ ?_ ?_ ?_); rotate_left 2; (focus (with_reducible rfl)); (focus rfl); (focus (intro u w1; go_simp; exact rfl)))))
        (with_reducible refine FlS.flow_rel (Vi := fun x w => w.ownsRow W4.heap.size 60 7 x n (itl (Li.drop k) ++ tk)) false ?_ ?_ ?_ ?_ ?_ ?_)
        case refine_1 => rfl
        case refine_2 => rfl
        case refine_3 => exact FlS.stable_done hpT hptk (hdl.trans hpm7.symm)
        case refine_4 => exact placed_false _
        case refine_5 =>
          intro u w1 hw hd
          (try simp only [depH] at hd); (try simp only [ext] at hd); (try simp only [extU] at hd); (try simp only [Nat.reduceAdd] at hd); (try simp only [Nat.reduceEqDiff] at hd); (try simp only [reduceIte] at hd); (try simp only [and_true] at hd); (try simp only [true_and] at hd)
          obtain ⟨e1, e2, _⟩ := hd
          have hw1 := hw.ins hpB
          obtain ⟨v', w2, hrun, hown2, hst⟩ := app_turn (t := 32) (ty := 32) hp0 hpT hpm7 hptk htl Tryz.underlying32 HI0.out.1 HI0.out.2.1 HI0.out.2.2.1 HI0.out.2.2.2 rfl e1 (by omega) hnk (by omega) ⟨G, 0, none⟩ vk (fun j u hj => keepCell hw1.bel (OwnI.cellsT HOW.out k j u (by rw [← HTK.out]; exact hj))) (by rw [HTK.out]; exact itl_one _) hw1.siz
          simp [execOp, resolve, invoke, builtin, e2, Act.eval, hrun, Result.andThen]
          simp only [FlS.okUpon]
          exact ⟨⟨hown2, fun h => by cases h⟩, hst⟩
        (with_reducible refine FlS.flow_rel (Vi := TupR (fun d e w => e = 0 ∧ SpN w W4.heap.size d r c f)) false ?_ ?_ ?_ ?_ ?_ ?_)
        case refine_1 => rfl
        case refine_2 => rfl
        case refine_3 => exact FlS.stable_tup fun d e w w' h hs => ⟨h.1, FlS.SpOwn.st h.2 hs (by rw [hpT]; decide) (by rw [hpT]; decide)⟩
        case refine_4 => exact placed_false _
        case refine_5 =>
          intro u w1 hw hd
          (try simp only [depH] at hd); (try simp only [ext] at hd); (try simp only [extU] at hd); (try simp only [Nat.reduceAdd] at hd); (try simp only [Nat.reduceEqDiff] at hd); (try simp only [reduceIte] at hd); (try simp only [and_true] at hd); (try simp only [true_and] at hd)
          obtain ⟨e1, e2, e3, _⟩ := hd
          have hw1 := hw.ins hpB
          rw [HTK.out, ← itl_append] at e3
          have cof2 := of_turn e3 HN.out (by rw [← HN.out]; omega) hr6 hc6 (by rw [← HN.out]; exact hLen) HOKI.out HITS.out (HTURN.out k) hw1.siz
          go_simp
          (try simp only [FlS.okUpon])
          go_at_call 16
          ((with_reducible refine cof2.mono ?_))
          rintro e w'' ⟨⟨v, rfl, hv⟩, hb⟩
          exact ⟨v, rfl, ⟨hv, fun h => by cases h⟩, .of_below hb⟩
        (((with_reducible refine FlS.flow_link (k := 11) (R := MvR) ?_ ?_ ?_ ?_); (focus rfl); (focus rfl); (focus (intro u w1 hw hd; (try simp only [depH] at hd); (try simp only [ext] at hd); (try simp only [extU] at hd); (try simp only [Nat.reduceAdd] at hd); (try simp only [Nat.reduceEqDiff] at hd); (try simp only [reduceIte] at hd); (try simp only [and_true] at hd); (try simp only [true_and] at hd); obtain ⟨⟨n, m, a, l, k, e, h3⟩, _⟩ := hd; exact ⟨u 11, fun w2 => (by go_simp), rfl, n, m, a, l, k, e, h3⟩))); ((with_reducible refine FlS.flow_link (k := 12) (R := FstR) ?_ ?_ ?_ ?_); (focus rfl); (focus rfl); (focus (intro u w1 hw hd; (try simp only [depH] at hd); (try simp only [ext] at hd); (try simp only [extU] at hd); (try simp only [Nat.reduceAdd] at hd); (try simp only [Nat.reduceEqDiff] at hd); (try simp only [reduceIte] at hd); (try simp only [and_true] at hd); (try simp only [true_and] at hd); obtain ⟨h4, n, m, a, l, k, e, h5⟩ := hd; exact ⟨.agg #[.int .i64 n, .int .i64 m, .slice a l k], fun w2 => (by clear h4; go_simp), n, m, a, l, k, e, h5, rfl⟩))); ((with_reducible refine FlS.flow_link (k := 12) (R := SndR) ?_ ?_ ?_ ?_); (focus rfl); (focus rfl); (focus (intro u w1 hw hd; (try simp only [depH] at hd); (try simp only [ext] at hd); (try simp only [extU] at hd); (try simp only [Nat.reduceAdd] at hd); (try simp only [Nat.reduceEqDiff] at hd); (try simp only [reduceIte] at hd); (try simp only [and_true] at hd); (try simp only [true_and] at hd); obtain ⟨h4, n, m, a, l, k, e, h5⟩ := hd; exact ⟨.int .i64 e, fun w2 => (by clear h4; go_simp), n, m, a, l, k, e, h5, rfl⟩))))
        (with_reducible refine FlS.flow_alloc (t := 63) (zs := #[.int .i64 0, .int .i64 0, .slice none 0 0]) (by rw [hpT]; decide) ?_ ?_ ?_ ?_); (focus (with_reducible rfl)); (focus rfl); (focus (intro u w1; go_simp; (try exact rfl)))
        (try clear hc hf h); intro u w' h ha hdi; replace h := h.ins; (try simp only [World.size_alloc] at h); (try dsimp only at ha); (repeat rw [World.size_alloc] at ha); (try simp only [allH] at ha); (try simp only [ext] at ha); (try simp only [extU] at ha); (try simp only [Nat.reduceAdd] at ha); (try simp only [Nat.reduceEqDiff] at ha); (try simp only [reduceIte] at ha); (try simp only [and_true] at ha); (try simp only [true_and] at ha); have hc := h.cell; have hf := h.frozen; clear hdi hc hf; rename World => wf
        (try simp only [ext, Nat.reduceEqDiff, reduceIte] at ha)
        obtain ⟨⟨⟨⟨⟨hA, htup⟩, hmv⟩, hfst⟩, hsnd⟩, E, hu, hE, bE⟩ := ha
        obtain ⟨n1, m1, a9, l9, k9, e9, hx1, hx2, h13, h14, he9, hsp⟩ := tup_out htup hmv hfst hsnd
        subst he9
        obtain ⟨ra2, rk2, hagg⟩ := (SpN.m hsp).shape
        rw [hagg] at hsp h13
        (try dsimp only)
        simp only [hA, h13, h14, hu]
        clear hA h13 h14 hu htup hmv hfst hsnd hx1 hx2 hagg
        have KM := Lib.hid (((hsp.setTy (j := 0) (x := .int .i64 (r : Nat)) bE (by decide) (by decide)).setTy (j := 1) (x := .int .i64 (c : Nat)) (bE.set 0 (.int .i64 (r : Nat))) (by decide) (by decide)).setTy (j := 2) (x := .slice ra2 r rk2) ((bE.set 0 (.int .i64 (r : Nat))).set 1 (.int .i64 (c : Nat))) (by decide) (by decide))
        clear hsp
        skip
        ((have p0 := bE.c0); (have p1 := bE.c1); (have p2 := bE.c2); (have pf0 := bE.frozen 0); (have pf1 := bE.frozen 1); (have pf2 := bE.frozen 2); (have pl := bE.lt); (have KS := Lib.hid (((bE.set 0 (.int .i64 r)).set 1 (.int .i64 c)).set 2 (.slice ra2 r rk2))); (have KH := Lib.hid (((h.setCell (p := ⟨E, 0, none⟩) (by first | exact hE | (simp; omega)) (.int .i64 r)).setCell (p := ⟨E, 1, none⟩) (by first | exact hE | (simp; omega)) (.int .i64 c)).setCell (p := ⟨E, 2, none⟩) (by first | exact hE | (simp; omega)) (.slice ra2 r rk2))); (clear h bE); (go_upto_region 29 with fail); (have hb := KH.out.bel); (have bE := KS.out); (simp only [List.set] at bE); (clear q0 q1 q2 ql); (replace hin := hin.call hb); (replace hB := hB.call hb); (replace hm := hm.call hb); (replace hown := hown.call hb); (replace hsm := hsm.call hb); (replace bS := bS.call hb); (replace bQ := bQ.call hb); (clear KS KH hb pl p0 p1 p2 pf0 pf1 pf2); (generalize ((wf.setCell ⟨E, 0, none⟩ (.int .i64 r)).setCell ⟨E, 1, none⟩ (.int .i64 c)).setCell ⟨E, 2, none⟩ (.slice ra2 r rk2) = W5 at *))
        have hsm2 := SpN.m KM.out
        clear KM
        skip
        ((have q0 := bQ.c0); (have q1 := bQ.c1); (have q2 := bQ.c2); (have ql := bQ.lt))
        ((have z0 := bE.c0); (have z1 := bE.c1); (have z2 := bE.c2); (have zl := bE.lt))
        have hss := sameM_self (r := r) (c := c) (f := f) (g := f) (fun _ _ _ _ => rfl)
        have csm := fun W v1 v2 (h1 : SpM W v1 r c f) (h2 : SpM W v2 r c f) => ssame_ok h1 h2 (by omega) (by omega)
        rw [hss] at csm
        have csp2 := fun W (h : BB W (b + 1) b i r c f) => (bsparse_any W (b + 1) b i r c f h (by omega) (by omega)).mono fun e w' ⟨v, h1, h2, h3⟩ => (⟨⟨v, h1, SpN.m h2⟩, h3⟩ : (∃ v, e = Ending.returned v ∧ SpM w' v r c f) ∧ Below W.heap.size W w')
        have h := In.self W5; have hc := h.cell; have hf := h.frozen; refine wp_region_flow 16 (by kernel_rfl) (by kernel_rfl) (fun _ _ d _ _ h => by cases d <;> exact h) ?_; simp only [List.take_succ_cons, List.take_zero, List.drop_succ_cons, List.drop_zero]; simp only [putAll, Act.put, List.setIfInBounds_toArray, List.set]; (try simp only [Nat.reduceAdd]); (try simp only [Nat.zero_add]); (repeat (first | ((with_reducible refine flow_float (v := ?_) ?_ ?_ ?_); rotate_left 1; (focus (with_reducible rfl)); (focus (intro u w1 hw hd w2; (try simp only [depH] at hd); (try simp only [ext] at hd); (try simp only [extU] at hd); (try simp only [Nat.reduceAdd] at hd); (try simp only [Nat.reduceEqDiff] at hd); (try simp only [reduceIte] at hd); (try simp only [and_true] at hd); (try simp only [true_and] at hd); go_simp; exact rfl))) | ((first | ((with_reducible refine flow_pure0 (v := ?_) ?_ ?_ ?_ ?_); rotate_left 1; (focus (with_reducible rfl)); (focus rfl)) | ((with_reducible refine flow_pureg (v := ?_) (j := ?_) (b := ?_) ?_ ?_ ?_ ?_); rotate_left 3; (focus (with_reducible rfl)); (focus (intro u w1 hw hd; (try simp only [depH] at hd); (try simp only [ext] at hd); (try simp only [extU] at hd); (try simp only [Nat.reduceAdd] at hd); (try simp only [Nat.reduceEqDiff] at hd); (try simp only [reduceIte] at hd); (try simp only [and_true] at hd); (try simp only [true_and] at hd); simp [yielded, hd]; done)))); (focus (intro u w1 hw hd; (try simp only [depH] at hd); (try simp only [ext] at hd); (try simp only [extU] at hd); (try simp only [Nat.reduceAdd] at hd); (try simp only [Nat.reduceEqDiff] at hd); (try simp only [reduceIte] at hd); (try simp only [and_true] at hd); (try simp only [true_and] at hd); have hc' := hw.cell; first | (go_simp; exact rfl) | (go_simp; go_at_call 17; ((with_reducible refine (csm _ _ _ (hsm2.call hw.ins.bel) (hsm.call hw.ins.bel)).mono ?_)); rintro e w'' ⟨rfl, hb⟩; refine ⟨?_, hb⟩; exact rfl)))) | ((with_reducible refine flow_skipg (j := ?_) (b := ?_) ?_ ?_ ?_); rotate_left 2; (focus (with_reducible rfl)); (focus (intro u w1 hw hd; (try simp only [depH] at hd); (try simp only [ext] at hd); (try simp only [extU] at hd); (try simp only [Nat.reduceAdd] at hd); (try simp only [Nat.reduceEqDiff] at hd); (try simp only [reduceIte] at hd); (try simp only [and_true] at hd); (try simp only [true_and] at hd); simp [yielded, hd]; done))) | ((with_reducible refine flow_alloc (t := ?_) (zs := ?_) ?_ ?_ ?_ ?_); rotate_left 2; (focus (with_reducible rfl)); (focus rfl); (focus (intro u w1; go_simp; exact rfl)))))
        (with_reducible refine flow_relg (Vi := fun x W => SpM W x r c f) (j := ?_) (b := ?_) ?_ ?_ ?_ ?_ ?_); rotate_left 2; (focus (with_reducible rfl)); (focus (intro u w1 hw hd; (try simp only [depH] at hd); (try simp only [ext] at hd); (try simp only [extU] at hd); (try simp only [Nat.reduceAdd] at hd); (try simp only [Nat.reduceEqDiff] at hd); (try simp only [reduceIte] at hd); (try simp only [and_true] at hd); (try simp only [true_and] at hd); simp [yielded, hd]; done)); (focus exact stable_spm _ _ _); (focus (intro u w1 hw hd; (try simp only [depH] at hd); (try simp only [ext] at hd); (try simp only [extU] at hd); (try simp only [Nat.reduceAdd] at hd); (try simp only [Nat.reduceEqDiff] at hd); (try simp only [reduceIte] at hd); (try simp only [and_true] at hd); (try simp only [true_and] at hd); have hc' := hw.cell; go_simp; (try simp only [okUpon]); go_at_call 12; ((with_reducible refine (csp2 _ (hB.call hw.ins.bel)).mono ?_)); rintro e w'' ⟨⟨v, rfl, hv⟩, hb⟩; exact ⟨v, rfl, ⟨hv, fun h => by cases h⟩, hb⟩))
        (repeat (first | ((with_reducible refine flow_float (v := ?_) ?_ ?_ ?_); rotate_left 1; (focus (with_reducible rfl)); (focus (intro u w1 hw hd w2; (try simp only [depH] at hd); (try simp only [ext] at hd); (try simp only [extU] at hd); (try simp only [Nat.reduceAdd] at hd); (try simp only [Nat.reduceEqDiff] at hd); (try simp only [reduceIte] at hd); (try simp only [and_true] at hd); (try simp only [true_and] at hd); go_simp; exact rfl))) | ((first | ((with_reducible refine flow_pure0 (v := ?_) ?_ ?_ ?_ ?_); rotate_left 1; (focus (with_reducible rfl)); (focus rfl)) | ((with_reducible refine flow_pureg (v := ?_) (j := ?_) (b := ?_) ?_ ?_ ?_ ?_); rotate_left 3; (focus (with_reducible rfl)); (focus (intro u w1 hw hd; (try simp only [depH] at hd); (try simp only [ext] at hd); (try simp only [extU] at hd); (try simp only [Nat.reduceAdd] at hd); (try simp only [Nat.reduceEqDiff] at hd); (try simp only [reduceIte] at hd); (try simp only [and_true] at hd); (try simp only [true_and] at hd); simp [yielded, hd]; done)))); (focus (intro u w1 hw hd; (try simp only [depH] at hd); (try simp only [ext] at hd); (try simp only [extU] at hd); (try simp only [Nat.reduceAdd] at hd); (try simp only [Nat.reduceEqDiff] at hd); (try simp only [reduceIte] at hd); (try simp only [and_true] at hd); (try simp only [true_and] at hd); have hc' := hw.cell; go_simp; exact rfl))) | ((with_reducible refine flow_skipg (j := ?_) (b := ?_) ?_ ?_ ?_); rotate_left 2; (focus (with_reducible rfl)); (focus (intro u w1 hw hd; (try simp only [depH] at hd); (try simp only [ext] at hd); (try simp only [extU] at hd); (try simp only [Nat.reduceAdd] at hd); (try simp only [Nat.reduceEqDiff] at hd); (try simp only [reduceIte] at hd); (try simp only [and_true] at hd); (try simp only [true_and] at hd); simp [yielded, hd]; done))) | ((with_reducible refine flow_alloc (t := ?_) (zs := ?_) ?_ ?_ ?_ ?_); rotate_left 2; (focus (with_reducible rfl)); (focus rfl); (focus (intro u w1; go_simp; exact rfl)))))
        ((with_reducible refine flow_pureg (v := .bool true) (j := ?_) (b := ?_) ?_ ?_ ?_ ?_); rotate_left 2; (focus (with_reducible rfl)); (focus (intro u w1 hw hd; (try simp only [depH] at hd); (try simp only [ext] at hd); (try simp only [extU] at hd); (try simp only [Nat.reduceAdd] at hd); (try simp only [Nat.reduceEqDiff] at hd); (try simp only [reduceIte] at hd); (try simp only [and_true] at hd); (try simp only [true_and] at hd); simp [yielded, hd]; done)); (focus (intro u w1 hw hd; (try simp only [depH] at hd); (try simp only [ext] at hd); (try simp only [extU] at hd); (try simp only [Nat.reduceAdd] at hd); (try simp only [Nat.reduceEqDiff] at hd); (try simp only [reduceIte] at hd); (try simp only [and_true] at hd); (try simp only [true_and] at hd); obtain ⟨hd1, hd2, _⟩ := hd; go_simp; go_at_call 17; refine (csm _ _ _ hd1 (hsm.call hw.ins.bel)).mono ?_; rintro e w'' ⟨rfl, hb⟩; exact ⟨rfl, hb⟩)))
        (repeat (first | ((with_reducible refine flow_float (v := ?_) ?_ ?_ ?_); rotate_left 1; (focus (with_reducible rfl)); (focus (intro u w1 hw hd w2; (try simp only [depH] at hd); (try simp only [ext] at hd); (try simp only [extU] at hd); (try simp only [Nat.reduceAdd] at hd); (try simp only [Nat.reduceEqDiff] at hd); (try simp only [reduceIte] at hd); (try simp only [and_true] at hd); (try simp only [true_and] at hd); go_simp; exact rfl))) | ((first | ((with_reducible refine flow_pure0 (v := ?_) ?_ ?_ ?_ ?_); rotate_left 1; (focus (with_reducible rfl)); (focus rfl)) | ((with_reducible refine flow_pureg (v := ?_) (j := ?_) (b := ?_) ?_ ?_ ?_ ?_); rotate_left 3; (focus (with_reducible rfl)); (focus (intro u w1 hw hd; (try simp only [depH] at hd); (try simp only [ext] at hd); (try simp only [extU] at hd); (try simp only [Nat.reduceAdd] at hd); (try simp only [Nat.reduceEqDiff] at hd); (try simp only [reduceIte] at hd); (try simp only [and_true] at hd); (try simp only [true_and] at hd); simp [yielded, hd]; done)))); (focus (intro u w1 hw hd; (try simp only [depH] at hd); (try simp only [ext] at hd); (try simp only [extU] at hd); (try simp only [Nat.reduceAdd] at hd); (try simp only [Nat.reduceEqDiff] at hd); (try simp only [reduceIte] at hd); (try simp only [and_true] at hd); (try simp only [true_and] at hd); have hc' := hw.cell; first | (go_simp; exact rfl) | (go_simp; go_at_call 4; ((with_reducible refine (cz _).mono ?_)); rintro e w'' ⟨rfl, hb⟩; refine ⟨?_, hb⟩; exact rfl)))) | ((with_reducible refine flow_skipg (j := ?_) (b := ?_) ?_ ?_ ?_); rotate_left 2; (focus (with_reducible rfl)); (focus (intro u w1 hw hd; (try simp only [depH] at hd); (try simp only [ext] at hd); (try simp only [extU] at hd); (try simp only [Nat.reduceAdd] at hd); (try simp only [Nat.reduceEqDiff] at hd); (try simp only [reduceIte] at hd); (try simp only [and_true] at hd); (try simp only [true_and] at hd); simp [yielded, hd]; done))) | ((with_reducible refine flow_alloc (t := ?_) (zs := ?_) ?_ ?_ ?_ ?_); rotate_left 2; (focus (with_reducible rfl)); (focus rfl); (focus (intro u w1; go_simp; exact rfl)))))
        (try clear hc hf h); intro u w' h ha hdi; replace h := h.ins; (try simp only [World.size_alloc] at h); (try dsimp only at ha); (repeat rw [World.size_alloc] at ha); (try simp only [allH] at ha); (try simp only [ext] at ha); (try simp only [extU] at ha); (try simp only [Nat.reduceAdd] at ha); (try simp only [Nat.reduceEqDiff] at ha); (try simp only [reduceIte] at ha); (try simp only [and_true] at ha); (try simp only [true_and] at ha); have hc := h.cell; have hf := h.frozen
        (try obtain ha := ha); (try dsimp only);  simp only [ha]; clear ha hdi 
        have hfin := hin.call h.bel
        clear hc hf h hin
        go_wp2_with fail
        go_ret
        exact ⟨rfl, by rw [← HX.out]; exact hfin.bel⟩
end Gus
end
