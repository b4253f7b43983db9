/-
  The map of the claims' effects, in whatever order its entries are inserted.
-/
import Derived.Test.YtjllgiddmeiaoaaD2
set_option linter.unusedVariables false
set_option linter.unusedSimpArgs false
set_option maxRecDepth 100000
namespace Go.Proofs.Ytjllgiddmeiaoaa
open Go Go.Sx Go.RowKit Go.Dial
def mtE : MTab := [(69, SV.of [.agg (SV.of [.vi (.int 1), .vi (.int 1)]), .agg (SV.of [.vi (.int 2), .vi (.int 1)]), .agg (SV.of [.vi (.int 3), .vi (.int 2)]), .agg (SV.of [.vi (.int 4), .vi (.int 2)]), .agg (SV.of [.vi (.int 5), .vi (.int 1)]), .agg (SV.of [.vi (.int 5), .vi (.int 2)]), .agg (SV.of [.vi (.int 5), .vi (.int 3)]), .agg (SV.of [.vi (.int 6), .vi (.int 4)])], SV.of [.vi (.int 3), .vi (.int 2), .vi (.int 3), .vi (.int 6), .vi (.int 7), .vi (.int 7), .vi (.int 7), .vi (.int 8)])]
def effTbl : List (Int × Int × Int) := [(1, 1, 3), (2, 1, 2), (3, 2, 3), (4, 2, 6), (5, 1, 7), (5, 2, 7), (5, 3, 7), (6, 4, 8)]
def keyE (k s : Int) : Value := .agg #[.int .i64 k, .int .i64 s]
/-- every order of the operations keeps something -/
theorem wpAny_inv {P : Program} {md : Region.Mode} {ops : Array Oper} {Q : Exit → Act → World → Prop} (J : Array Bool → Act → World → Prop)
    (hz : ∀ l a w, J l a w → l.size = ops.size)
    (hs : ∀ l a w i, J l a w → i ∈ Region.ready md ops l → wpOp P ops Q i (J (l.setIfInBounds i true)) a w)
    (he : ∀ l a w, J l a w → Region.ready md ops l = [] → Q .normal a w) :
    ∀ (fuel : Nat) (l : Array Bool) (a : Act) (w : World), J l a w → (l.toList.filter fun b => !b).length ≤ fuel → wpAny P md ops Q fuel l a w := by
  have none_left : ∀ l : Array Bool, (l.toList.filter fun b => !b).length = 0 → Region.ready md ops l = [] := fun l hl => by
    unfold Region.ready
    rw [List.filter_eq_nil_iff]
    intro i _ hi
    rw [Bool.and_eq_true] at hi
    have h1 := hi.1
    cases hc : l[i]? with
    | none => simp [hc] at h1
    | some b =>
      have : b = false := by simpa [hc] using h1
      subst this
      have hm : false ∈ l.toList.filter fun b => !b := List.mem_filter.2 ⟨by simpa using Array.mem_of_getElem? hc, rfl⟩
      rw [List.length_eq_zero_iff.1 hl] at hm
      cases hm
  have less : ∀ (l : List Bool) (i : Nat), l[i]? = some false → ((l.set i true).filter fun b => !b).length + 1 = (l.filter fun b => !b).length := by
    intro l
    induction l with
    | nil => intro i h; simp at h
    | cons b l ih =>
      intro i h
      cases i with
      | zero => cases h; simp
      | succ i =>
        have := ih i h
        cases b <;> simp [List.filter_cons] at this ⊢ <;> omega
  intro fuel
  induction fuel with
  | zero =>
    intro l a w hJ hl
    exact ⟨none_left l (by omega), he l a w hJ (none_left l (by omega))⟩
  | succ fuel ih =>
    intro l a w hJ hl
    refine ⟨fun h => he l a w hJ h, fun i hi => ?_⟩
    have h1 : l[i]? = some false := by
      unfold Region.ready at hi
      rw [List.mem_filter, Bool.and_eq_true] at hi
      have h1 := hi.2.1
      cases hc : l[i]? with
      | none => simp [hc] at h1
      | some b => cases b <;> simp [hc] at h1 ⊢
    have hf : ((l.setIfInBounds i true).toList.filter fun b => !b).length ≤ fuel := by
      have := less l.toList i (by simpa using h1)
      rw [Array.toList_setIfInBounds]
      omega
    exact wpOp_mono (fun a w h => ih _ a w h hf) (hs l a w i hJ hi)
structure JE (w0 : World) (l : Array Bool) (a : Act) (w : World) : Prop where
  sz : l.size = 19
  ts : a.tmps.size = 11
  df : a.defers = []
  below : Below w0.heap.size w0 w
  m : l[0]? = some true → ∃ r es c, a.tmps[1]? = some (.map (some r)) ∧ w0.heap.size ≤ r ∧ w.heap[r]? = some (.map es c) ∧
    (∀ (j : Nat) k s v, effTbl[j]? = some (k, s, v) → l[2 * j + 2]? = some true → ∃ e ∈ es.toList, e.key = keyE k s ∧ e.val = .int .i64 v) ∧
    (∀ e ∈ es.toList, ∃ (j : Nat) (k s v : Int), effTbl[j]? = some (k, s, v) ∧ l[2 * j + 2]? = some true ∧ e.key = keyE k s ∧ e.val = .int .i64 v)
  b : ∀ (j : Nat) k s v, effTbl[j]? = some (k, s, v) → l[2 * j + 1]? = some true → a.tmps[j + 2]? = some (keyE k s)
  n : ∀ (j : Nat), j < 8 → l[2 * j + 2]? = some true → l[0]? = some true
  o17 : l[17]? = some true → l[0]? = some true ∧ a.tmps[10]? = a.tmps[1]?
  o18 : l[18]? = some true → l[17]? = some true ∧ a.tmps[0]? = a.tmps[10]?
noncomputable def opsE : Array Oper := match Try.f69.body with
  | some (.seq _ (.seq (.region _ ops _) _)) => ops
  | _ => #[]
theorem bodyE : Try.f69.body = some (.seq (.region 0 #[{ dst := some 0, op := .assign (.const (.map none)), type := 140, pos := "claim.go:76", after := #[], guard := none }] false) (.seq (.region 1 opsE true) .ret)) := by kernel_rfl
theorem sizeE : opsE.size = 19 := by kernel_rfl
theorem tyE : Try.prog.underlying 140 = some (.map 168 ((Try.prog.underlying 140).elim 0 fun | .map _ e => e | _ => 0)) := by kernel_rfl
theorem keyv (k s : Int) : KeyV Try.prog 168 (keyE k s) := by
  have h : keyOk Try.prog 168 (.agg (SV.of [.vi (.int k), .vi (.int s)])) = true := by kernel_rfl
  exact key_view (env := []) (κ := fun _ => undef) (F := fun _ => False) (w := default) h ⟨#[.int .i64 k, .int .i64 s], rfl, rfl, ⟨_, [.int .i64 s], rfl, ⟨rfl, rfl⟩, ⟨_, [], rfl, ⟨rfl, rfl⟩, rfl⟩⟩⟩
theorem depsE (l : Array Bool) (i : Nat) (h : i ∈ Region.ready .any opsE l) : i < 19 ∧ l[i]? = some false ∧ ∀ o, opsE[i]? = some o → ∀ e ∈ o.after, Region.binds .any e = true → l[e.on]? = some true := by
  unfold Region.ready at h
  rw [List.mem_filter, Bool.and_eq_true, List.mem_range, sizeE] at h
  obtain ⟨h1, h2, h3⟩ := h
  refine ⟨h1, ?_, fun o ho e he hb => ?_⟩
  · cases hc : l[i]? with
    | none => simp [hc] at h2
    | some b => cases b <;> simp [hc] at h2 ⊢
  · rw [ho] at h3
    simp only [Option.map_some, Option.getD_some, Array.all_eq_true_iff_forall_mem] at h3
    have := h3 e he
    rw [hb] at this
    cases hc : l[e.on]? with
    | none => simp [hc] at this
    | some b => cases b <;> simp [hc] at this ⊢
/-- the operations -/
theorem op_of {i : Nat} {x : Op × Option Tmp × Option (Nat × Bool) × List Edge} {q : Nat} (h : (opsE[i]?).map (fun o => (o.op, o.dst, o.guard, o.after.toList.take q)) = some x) : ∃ o, opsE[i]? = some o ∧ o.op = x.1 ∧ o.dst = x.2.1 ∧ o.guard = x.2.2.1 ∧ ∀ e ∈ x.2.2.2, e ∈ o.after := by
  obtain ⟨o, h1, rfl⟩ := Option.map_eq_some_iff.1 h
  exact ⟨o, h1, rfl, rfl, rfl, fun e he => by simpa using List.mem_of_mem_take he⟩
theorem op0 : (opsE[0]?).map (fun o => (o.op, o.dst, o.guard, o.after.toList.take 0)) = some (.makeMap 140 none, some 1, none, []) := by kernel_rfl
theorem opB (j : Nat) (k s v : Int) (h : effTbl[j]? = some (k, s, v)) : (opsE[2 * j + 1]?).map (fun o => (o.op, o.dst, o.guard, o.after.toList.take 0)) = some (.build 168 #[(0, .const (.int .i64 k)), (1, .const (.int .i64 s))], some (j + 2), none, []) := by
  have hj : j < 8 := (List.getElem?_eq_some_iff.1 h).1
  have : j = 0 ∨ j = 1 ∨ j = 2 ∨ j = 3 ∨ j = 4 ∨ j = 5 ∨ j = 6 ∨ j = 7 := by omega
  rcases this with rfl | rfl | rfl | rfl | rfl | rfl | rfl | rfl <;> (simp only [effTbl, List.getElem?_cons_zero, List.getElem?_cons_succ, Option.some.injEq, Prod.mk.injEq] at h; obtain ⟨rfl, rfl, rfl⟩ := h)
  all_goals (show _ = _; kernel_rfl)
theorem opI (j : Nat) (k s v : Int) (h : effTbl[j]? = some (k, s, v)) : (opsE[2 * j + 2]?).map (fun o => (o.op, o.dst, o.guard, o.after.toList.take 2)) = some (.insert 140 (.tmp 1) (.tmp (j + 2)) (.const (.int .i64 v)), none, none, [{ on := 0, ground := .data }, { on := 2 * j + 1, ground := .data }]) := by
  have hj : j < 8 := (List.getElem?_eq_some_iff.1 h).1
  have : j = 0 ∨ j = 1 ∨ j = 2 ∨ j = 3 ∨ j = 4 ∨ j = 5 ∨ j = 6 ∨ j = 7 := by omega
  rcases this with rfl | rfl | rfl | rfl | rfl | rfl | rfl | rfl <;> (simp only [effTbl, List.getElem?_cons_zero, List.getElem?_cons_succ, Option.some.injEq, Prod.mk.injEq] at h; obtain ⟨rfl, rfl, rfl⟩ := h)
  all_goals (show _ = _; kernel_rfl)
theorem op17 : (opsE[17]?).map (fun o => (o.op, o.dst, o.guard, o.after.toList.take 1)) = some (.move (.tmp 1), some 10, none, [{ on := 0, ground := .data }]) := by kernel_rfl
theorem op18 : (opsE[18]?).map (fun o => (o.op, o.dst, o.guard, o.after.toList.take 1)) = some (.assign (.tmp 10), some 0, none, [{ on := 17, ground := .data }]) := by kernel_rfl
theorem builtE (k s : Int) : Try.prog.built 168 [(0, .int .i64 k), (1, .int .i64 s)] = some #[.int .i64 k, .int .i64 s] := by kernel_rfl
theorem wpOp_run {P : Program} {ops : Array Oper} {Q : Exit → Act → World → Prop} {i : Nat} {o : Oper} {a : Act} {w w' : World} {u : Value} {K : Act → World → Prop} (ho : ops[i]? = some o) (hg : o.guard = none) (hr : Runs P o a w u w') (hk : K (a.put o.dst u) w') : wpOp P ops Q i K a w := by
  unfold wpOp
  rw [ho]
  simp only
  have hw : Region.wanted o (yielded ops a.tmps) = true := by unfold Region.wanted; rw [hg]
  rw [if_pos hw]
  left
  unfold Oper.wp
  rcases hr with h | ⟨rfl, h⟩ <;> rw [h] <;> exact hk
theorem put_at {a : Act} {d : Nat} {v : Value} (hd : d < a.tmps.size) : (a.put (some d) v).tmps[d]? = some v := by
  simp [Act.put, hd]
theorem put_ne {a : Act} {d x : Nat} {v : Value} (h : d ≠ x) : (a.put (some d) v).tmps[x]? = a.tmps[x]? := by
  simp [Act.put, Array.getElem?_setIfInBounds, h]
theorem put_sz {a : Act} {d : Option Nat} {v : Value} : (a.put d v).tmps.size = a.tmps.size := by
  cases d <;> simp [Act.put]
theorem put_df {a : Act} {d : Option Nat} {v : Value} : (a.put d v).defers = a.defers := by
  cases d <;> simp [Act.put]
theorem set_same {l : Array Bool} {i : Nat} (h : i < l.size) : (l.setIfInBounds i true)[i]? = some true := by simp [h]
theorem set_ne {l : Array Bool} {i x : Nat} (h : i ≠ x) : (l.setIfInBounds i true)[x]? = l[x]? := by simp [Array.getElem?_setIfInBounds, h]
theorem eval_tmp {a : Act} {d : Nat} {v : Value} (h : a.tmps[d]? = some v) : a.eval (.tmp d) = v := by
  simp [Act.eval, h]
theorem lt8 {j : Nat} {x : Int × Int × Int} (h : effTbl[j]? = some x) : j < 8 := (List.getElem?_eq_some_iff.1 h).1
section
variable {w0 : World} {l : Array Bool} {a : Act} {w : World} {Q : Exit → Act → World → Prop}
theorem stepB (h : JE w0 l a w) {j : Nat} {k s v : Int} (hj : effTbl[j]? = some (k, s, v)) (hi : 2 * j + 1 ∈ Region.ready .any opsE l) : wpOp Try.prog opsE Q (2 * j + 1) (JE w0 (l.setIfInBounds (2 * j + 1) true)) a w := by
  obtain ⟨o, ho, h1, h2, h3, _⟩ := op_of (opB j k s v hj)
  have hj8 : j < 8 := (List.getElem?_eq_some_iff.1 hj).1
  refine wpOp_run (u := keyE k s) (w' := w) ho h3 (.inl ?_) ?_
  · have hrun := run_build (P := Try.prog) w 168 [(0, .int .i64 k), (1, .int .i64 s)].toArray _ (builtE k s)
    simp only [execOp, h1]
    rw [Sem.run_bind]
    have hmap : Array.map (fun x => (x.fst, a.eval x.snd)) #[(0, Operand.const (Value.int .i64 k)), (1, Operand.const (Value.int .i64 s))] = #[(0, Value.int .i64 k), (1, Value.int .i64 s)] := by simp [Act.eval]
    have hrun' : Sem.run Try.prog (Instr.build 168 #[(0, Value.int .i64 k), (1, Value.int .i64 s)]) w = .ok (keyE k s) w := hrun
    rw [hmap, hrun', Result.andThen_ok, Sem.run_pure]
  · rw [h2]
    have hs := h.sz
    have ht := h.ts
    refine ⟨by simpa using hs, by rw [put_sz]; exact ht, by rw [put_df]; exact h.df, h.below, fun h0 => ?_, fun j' k' s' v' hj' hl => ?_, fun j' hj' hl => ?_, fun h17 => ?_, fun h18 => ?_⟩
    · rw [set_ne (by omega)] at h0
      obtain ⟨r, es, c, q1, q2, q3, q4, q5⟩ := h.m h0
      refine ⟨r, es, c, by rw [put_ne (by omega)]; exact q1, q2, q3, fun j' k' s' v' hj' hl => ?_, fun e he => ?_⟩
      · rw [set_ne (by omega)] at hl; exact q4 j' k' s' v' hj' hl
      · obtain ⟨j', k', s', v', e1, e2, e3⟩ := q5 e he
        exact ⟨j', k', s', v', e1, by rw [set_ne (by omega)]; exact e2, e3⟩
    · by_cases e : j' = j
      · subst e
        rw [hj] at hj'; cases hj'
        exact put_at (by omega)
      · rw [set_ne (by omega)] at hl
        rw [put_ne (by omega)]
        exact h.b j' k' s' v' hj' hl
    · rw [set_ne (by omega)] at hl ⊢; exact h.n j' hj' hl
    · rw [set_ne (by omega)] at h17
      rw [set_ne (by omega), put_ne (by omega), put_ne (by omega)]; exact h.o17 h17
    · rw [set_ne (by omega)] at h18
      rw [set_ne (by omega), put_ne (by omega), put_ne (by omega)]; exact h.o18 h18
theorem step0 (h : JE w0 l a w) (hi : 0 ∈ Region.ready .any opsE l) : wpOp Try.prog opsE Q 0 (JE w0 (l.setIfInBounds 0 true)) a w := by
  obtain ⟨o, ho, h1, h2, h3, _⟩ := op_of op0
  obtain ⟨_, hl0, _⟩ := depsE l 0 hi
  refine wpOp_run (u := .map (some w.heap.size)) (w' := w.alloc (.map #[] 0)) ho h3 (.inl ?_) ?_
  · simp [execOp, h1, Instr.makeMap]
  · rw [h2]
    have hs := h.sz
    have ht := h.ts
    have no : ∀ j, j < 8 → l[2 * j + 2]? ≠ some true := fun j hj hl => by
      have := h.n j hj hl
      rw [hl0] at this; cases this
    refine ⟨by simpa using hs, by rw [put_sz]; exact ht, by rw [put_df]; exact h.df, h.below.alloc h.below.size _, fun h0 => ?_, fun j' k' s' v' hj' hl => ?_, fun j' hj' hl => ?_, fun h17 => ?_, fun h18 => ?_⟩
    · refine ⟨w.heap.size, #[], 0, put_at (by omega), h.below.size, World.alloc_heap_new _ _, fun j' k' s' v' hj' hl => ?_, fun e he => by simp at he⟩
      rw [set_ne (by omega)] at hl
      exact absurd hl (no j' (List.getElem?_eq_some_iff.1 hj').1)
    · rw [set_ne (by omega)] at hl
      rw [put_ne (by omega)]
      exact h.b j' k' s' v' hj' hl
    · rw [set_ne (by omega)] at hl
      exact absurd hl (no j' hj')
    · rw [set_ne (by omega)] at h17
      have := (h.o17 h17).1
      rw [hl0] at this; cases this
    · rw [set_ne (by omega)] at h18
      have := (h.o17 (h.o18 h18).1).1
      rw [hl0] at this; cases this
theorem step17 (h : JE w0 l a w) (hi : 17 ∈ Region.ready .any opsE l) : wpOp Try.prog opsE Q 17 (JE w0 (l.setIfInBounds 17 true)) a w := by
  obtain ⟨o, ho, h1, h2, h3, h4⟩ := op_of op17
  obtain ⟨_, hl0, hd⟩ := depsE l 17 hi
  have h0 : l[0]? = some true := hd o ho _ (h4 _ (List.mem_cons_self ..)) rfl
  obtain ⟨r, es, c, q1, q2, q3, q4, q5⟩ := h.m h0
  refine wpOp_run (u := .map (some r)) (w' := w) ho h3 (.inl ?_) ?_
  · simp [execOp, h1, eval_tmp q1]
  · rw [h2]
    have hs := h.sz
    have ht := h.ts
    refine ⟨by simpa using hs, by rw [put_sz]; exact ht, by rw [put_df]; exact h.df, h.below, fun _ => ?_, fun j' k' s' v' hj' hl => ?_, fun j' hj' hl => ?_, fun h17 => ?_, fun h18 => ?_⟩
    · refine ⟨r, es, c, by rw [put_ne (by omega)]; exact q1, q2, q3, fun j' k' s' v' hj' hl => ?_, fun e he => ?_⟩
      · have := lt8 hj'
        rw [set_ne (by omega)] at hl; exact q4 j' k' s' v' hj' hl
      · obtain ⟨j', k', s', v', e1, e2, e3⟩ := q5 e he
        exact ⟨j', k', s', v', e1, by rw [set_ne (by omega)]; exact e2, e3⟩
    · have hj8 : j' < 8 := (List.getElem?_eq_some_iff.1 hj').1
      rw [set_ne (by omega)] at hl
      rw [put_ne (by omega)]
      exact h.b j' k' s' v' hj' hl
    · rw [set_ne (by omega)] at hl ⊢; exact h.n j' hj' hl
    · exact ⟨by rw [set_ne (by omega)]; exact h0, by rw [put_at (by omega), put_ne (by omega)]; exact q1.symm⟩
    · rw [set_ne (by omega)] at h18
      have := (h.o18 h18).1
      rw [hl0] at this; cases this
theorem step18 (h : JE w0 l a w) (hi : 18 ∈ Region.ready .any opsE l) : wpOp Try.prog opsE Q 18 (JE w0 (l.setIfInBounds 18 true)) a w := by
  obtain ⟨o, ho, h1, h2, h3, h4⟩ := op_of op18
  obtain ⟨_, hl0, hd⟩ := depsE l 18 hi
  have h17 : l[17]? = some true := hd o ho _ (h4 _ (List.mem_cons_self ..)) rfl
  obtain ⟨h0, h10⟩ := h.o17 h17
  obtain ⟨r, es, c, q1, q2, q3, q4, q5⟩ := h.m h0
  refine wpOp_run (u := .map (some r)) (w' := w) ho h3 (.inl ?_) ?_
  · simp [execOp, h1, eval_tmp (h10.trans q1)]
  · rw [h2]
    have hs := h.sz
    have ht := h.ts
    refine ⟨by simpa using hs, by rw [put_sz]; exact ht, by rw [put_df]; exact h.df, h.below, fun _ => ?_, fun j' k' s' v' hj' hl => ?_, fun j' hj' hl => ?_, fun h17 => ?_, fun h18 => ?_⟩
    · refine ⟨r, es, c, by rw [put_ne (by omega)]; exact q1, q2, q3, fun j' k' s' v' hj' hl => ?_, fun e he => ?_⟩
      · have := lt8 hj'
        rw [set_ne (by omega)] at hl; exact q4 j' k' s' v' hj' hl
      · obtain ⟨j', k', s', v', e1, e2, e3⟩ := q5 e he
        have := lt8 e1
        exact ⟨j', k', s', v', e1, by rw [set_ne (by omega)]; exact e2, e3⟩
    · have hj8 : j' < 8 := (List.getElem?_eq_some_iff.1 hj').1
      rw [set_ne (by omega)] at hl
      rw [put_ne (by omega)]
      exact h.b j' k' s' v' hj' hl
    · rw [set_ne (by omega)] at hl ⊢; exact h.n j' hj' hl
    · exact ⟨by rw [set_ne (by omega)]; exact h0, by rw [put_ne (by omega), put_ne (by omega)]; exact h10⟩
    · exact ⟨by rw [set_ne (by omega)]; exact h17, by rw [put_at (by omega), put_ne (by omega), h10]; exact q1.symm⟩
theorem tbl_key {j j' : Nat} {k s v v' : Int} (h : effTbl[j]? = some (k, s, v)) (h' : effTbl[j']? = some (k, s, v')) : j = j' := by
  have e : ∀ i : Nat, i < 8 → ∀ i' : Nat, i' < 8 → (effTbl[i]?).map (fun x => (x.1, x.2.1)) = (effTbl[i']?).map (fun x => (x.1, x.2.1)) → i = i' := by decide
  exact e j (List.getElem?_eq_some_iff.1 h).1 j' (List.getElem?_eq_some_iff.1 h').1 (by rw [h, h']; rfl)
theorem keyE_inj {k s k' s' : Int} (h : keyE k s = keyE k' s') : k = k' ∧ s = s' := by
  unfold keyE at h
  simpa using h
theorem stepI (h : JE w0 l a w) {j : Nat} {k s v : Int} (hj : effTbl[j]? = some (k, s, v)) (hi : 2 * j + 2 ∈ Region.ready .any opsE l) : wpOp Try.prog opsE Q (2 * j + 2) (JE w0 (l.setIfInBounds (2 * j + 2) true)) a w := by
  obtain ⟨o, ho, h1, h2, h3, h4⟩ := op_of (opI j k s v hj)
  have hj8 : j < 8 := (List.getElem?_eq_some_iff.1 hj).1
  obtain ⟨_, hl0, hd⟩ := depsE l _ hi
  have h0 : l[0]? = some true := hd o ho _ (h4 _ (List.mem_cons_self ..)) rfl
  have hb : l[2 * j + 1]? = some true := hd o ho _ (h4 _ (List.mem_cons_of_mem _ (List.mem_cons_self ..))) rfl
  obtain ⟨r, es, c, q1, q2, q3, q4, q5⟩ := h.m h0
  have hk := h.b j k s v hj hb
  have hkes : ∀ e ∈ es.toList, KeyV Try.prog 168 e.key := fun e he => by
    obtain ⟨j', k', s', v', _, _, e3, _⟩ := q5 e he
    rw [e3]; exact keyv _ _
  obtain ⟨fr, f1, f2⟩ := find_run (w := w) (keyv k s) es.toList hkes
  have hno : ∀ e ∈ es.toList, e.key ≠ keyE k s := fun e he hh => by
    obtain ⟨j', k', s', v', e1, e2, e3, _⟩ := q5 e he
    rw [e3] at hh
    obtain ⟨rfl, rfl⟩ := keyE_inj hh
    have := tbl_key hj e1
    subst this
    rw [hl0] at e2; cases e2
  have hfr : fr = none := by
    rcases f2 with ⟨f2, _⟩ | ⟨i, e, he, f3, _⟩
    · exact f2
    · exact absurd f3 (hno e he)
  subst hfr
  obtain ⟨W, hW⟩ : ∃ W, W = { w with heap := w.heap.setIfInBounds r (.map (es.push { key := keyE k s, val := .int .i64 v, born := c }) (c + 1)) } := ⟨_, rfl⟩
  have hlt := heap_lt q3
  have hrun : (Instr.mapUpdate 140 (.map (some r)) (keyE k s) (.int .i64 v)).run Try.prog w = .ok () W := by
    rw [hW]
    simp only [Instr.mapUpdate, run_underlying tyE, Sem.run_bind, Result.andThen_ok, run_getObj_map w r es c q3, key_check (keyv k s), f1, run_setObj_map _ q3]
  have hR : Runs Try.prog o a w undef W := .inr ⟨rfl, by
    simp only [execOp, h1, eval_tmp q1, eval_tmp hk]
    show Sem.run Try.prog (Instr.mapUpdate 140 (.map (some r)) (keyE k s) (.int .i64 v) >>= fun _ => pure Next.skip) w = _
    rw [Sem.run_bind, hrun, Result.andThen_ok, Sem.run_pure]⟩
  refine wpOp_run ho h3 hR ?_
  rw [h2]
  have hs := h.sz
  have ht := h.ts
  have hBW : Below w0.heap.size w0 W := by
    have hB := h.below
    rw [hW]
    exact ⟨hB.os, hB.tape, hB.output, by simpa using hB.size, fun k hk => by
      have : r ≠ k := by omega
      simp [this]
      exact hB.block k hk⟩
  refine ⟨by simpa using hs, ht, h.df, hBW, fun _ => ?_, fun j' k' s' v' hj' hl => ?_, fun j' hj' hl => ?_, fun h17 => ?_, fun h18 => ?_⟩
  · refine ⟨r, es.push { key := keyE k s, val := .int .i64 v, born := c }, c + 1, q1, q2, by rw [hW]; simp [hlt], fun j' k' s' v' hj' hl => ?_, fun e he => ?_⟩
    · by_cases e : j' = j
      · subst e
        rw [hj] at hj'; cases hj'
        exact ⟨{ key := keyE k s, val := .int .i64 v, born := c }, by simp, rfl, rfl⟩
      · rw [set_ne (by omega)] at hl
        obtain ⟨e, he, e1⟩ := q4 j' k' s' v' hj' hl
        exact ⟨e, by simp at he ⊢; exact .inl he, e1⟩
    · simp only [Array.toList_push, List.mem_append, List.mem_singleton] at he
      rcases he with he | rfl
      · obtain ⟨j', k', s', v', e1, e2, e3⟩ := q5 e he
        by_cases e : j' = j
        · subst e
          rw [hl0] at e2; cases e2
        · exact ⟨j', k', s', v', e1, by rw [set_ne (by omega)]; exact e2, e3⟩
      · exact ⟨j, k, s, v, hj, set_same (by omega), rfl, rfl⟩
  · rw [set_ne (by omega)] at hl; exact h.b j' k' s' v' hj' hl
  · rw [set_ne (by omega)]; exact h0
  · rw [set_ne (by omega)] at h17 ⊢; exact h.o17 h17
  · by_cases e : 2 * j + 2 = 18
    · omega
    · rw [set_ne (by omega)] at h18 ⊢; exact h.o18 h18
end
theorem backE : (opsE.toList.zipIdx.all fun x => x.1.after.toList.all fun e => decide (e.on < x.2)) = true := by kernel_rfl
theorem allE {l : Array Bool} (hs : l.size = 19) (h : Region.ready .any opsE l = []) : ∀ i, i < 19 → l[i]? = some true := by
  intro i
  induction i using Nat.strongRecOn with
  | _ i ih =>
    intro hi
    cases hc : l[i]? with
    | none => rw [Array.getElem?_eq_none_iff] at hc; omega
    | some b =>
      cases b with
      | true => rfl
      | false =>
        exfalso
        have hsz := sizeE
        have hm : i ∈ Region.ready .any opsE l := by
          unfold Region.ready
          rw [List.mem_filter, Bool.and_eq_true, List.mem_range]
          refine ⟨by omega, by simp [hc], ?_⟩
          have ho : opsE[i]? = some opsE[i] := Array.getElem?_eq_getElem (by omega)
          rw [ho]
          simp only [Option.map_some, Option.getD_some, Array.all_eq_true_iff_forall_mem]
          intro e he
          have hb := List.all_eq_true.1 backE (opsE[i], i) (by
            rw [List.mem_iff_getElem?]
            exact ⟨i, by rw [List.getElem?_zipIdx, Array.getElem?_toList, ho]; simp⟩)
          have hlt := List.all_eq_true.1 hb e (by simpa using he)
          have hlt : e.on < i := by simpa using hlt
          have := ih e.on hlt (by omega)
          rw [Bool.or_eq_true]
          right
          simp [this]
        rw [h] at hm
        cases hm
theorem listE : ((SV.of [.agg (SV.of [.vi (.int 1), .vi (.int 1)]), .agg (SV.of [.vi (.int 2), .vi (.int 1)]), .agg (SV.of [.vi (.int 3), .vi (.int 2)]), .agg (SV.of [.vi (.int 4), .vi (.int 2)]), .agg (SV.of [.vi (.int 5), .vi (.int 1)]), .agg (SV.of [.vi (.int 5), .vi (.int 2)]), .agg (SV.of [.vi (.int 5), .vi (.int 3)]), .agg (SV.of [.vi (.int 6), .vi (.int 4)])]).list = effTbl.map fun x => .agg (SV.of [.vi (.int x.1), .vi (.int x.2.1)])) ∧
    (SV.of [.vi (.int 3), .vi (.int 2), .vi (.int 3), .vi (.int 6), .vi (.int 7), .vi (.int 7), .vi (.int 7), .vi (.int 8)]).list = effTbl.map fun x => .vi (.int x.2.2) := ⟨rfl, rfl⟩
theorem keyden (w : World) (k s : Int) : SVden [] (fun _ => undef) (fun _ => False) w (.agg (SV.of [.vi (.int k), .vi (.int s)])) (keyE k s) :=
  ⟨#[.int .i64 k, .int .i64 s], rfl, rfl, ⟨_, [.int .i64 s], rfl, ⟨rfl, rfl⟩, ⟨_, [], rfl, ⟨rfl, rfl⟩, rfl⟩⟩⟩
theorem mtE_ok : mtE.ok Try.prog := by
  intro x hx
  unfold mtE at hx
  rw [List.mem_singleton] at hx
  subst hx
  intro w
  refine calls_of_wp Try.func69 bodyE ?_
  refine wp_seq (wp_region ?_)
  show wpOps _ _ _ [0] _ _
  rw [wpOps_cons]
  refine wpOp_run (o := { dst := some 0, op := .assign (.const (.map none)), type := 140, pos := "claim.go:76", after := #[], guard := none }) (u := .map none) (w' := w) rfl rfl (.inl (by simp [execOp, Act.eval])) ?_
  show Code.wp _ _ _ _ _
  refine wp_seq (wp_region_any try_mix ?_)
  refine wpAny_inv (JE w) (fun l a w h => by rw [h.sz, sizeE]) (fun l a w' i h hi => ?_) (fun l a w' h hr => ?_) _ _ _ _ ?_ ?_
  · have hlt := (depsE l i hi).1
    rcases Nat.lt_or_ge i 17 with h17 | h17
    · rcases Nat.eq_zero_or_pos i with rfl | hp
      · exact step0 h hi
      · obtain ⟨j, hj⟩ : ∃ j, i = 2 * j + 1 ∨ i = 2 * j + 2 := ⟨(i - 1) / 2, by omega⟩
        have hj8 : j < effTbl.length := by show j < 8; omega
        obtain ⟨⟨k, s, v⟩, hx⟩ : ∃ x, effTbl[j]? = some x := ⟨_, List.getElem?_eq_getElem hj8⟩
        rcases hj with rfl | rfl
        · exact stepB h hx hi
        · exact stepI h hx hi
    · have : i = 17 ∨ i = 18 := by omega
      rcases this with rfl | rfl
      · exact step17 h hi
      · exact step18 h hi
  · have hall := allE h.sz hr
    obtain ⟨r, es, c, q1, q2, q3, q4, q5⟩ := h.m (hall 0 (by omega))
    have h10 := (h.o17 (hall 17 (by omega))).2
    have h0 := (h.o18 (hall 18 (by omega))).2
    have hv : a.tmps[0]? = some (.map (some r)) := by rw [h0, h10, q1]
    refine wp_ret ⟨h.df, .map (some r), ?_, r, es, c, rfl, q2, q3, rfl, rfl, rfl, ⟨fun i k v hk hv => ?_, fun e he => ?_, fun e he e' he' hee => ?_⟩, h.below⟩
    · simp [results, Try.f69, hv]
    · rw [listE.1, List.getElem?_map] at hk
      rw [listE.2, List.getElem?_map] at hv
      obtain ⟨⟨k1, s1, v1⟩, e1, rfl⟩ := Option.map_eq_some_iff.1 hk
      rw [e1] at hv
      cases hv
      obtain ⟨e, he, e2, e3⟩ := q4 i k1 s1 v1 e1 (hall _ (by have := lt8 e1; omega))
      exact ⟨e, he, by rw [e2]; exact keyden _ _ _, by rw [e3]; exact ⟨rfl, rfl⟩⟩
    · obtain ⟨j, k, s, v, e1, _, e2, e3⟩ := q5 e he
      exact ⟨j, _, _, by rw [listE.1, List.getElem?_map, e1]; rfl, by rw [listE.2, List.getElem?_map, e1]; rfl, by rw [e2]; exact keyden _ _ _, by rw [e3]; exact ⟨rfl, rfl⟩⟩
    · obtain ⟨j, k, s, v, e1, _, e2, e3⟩ := q5 e he
      obtain ⟨j', k', s', v', e1', _, e2', e3'⟩ := q5 e' he'
      rw [e2, e2'] at hee
      obtain ⟨rfl, rfl⟩ := keyE_inj hee
      have := tbl_key e1 e1'
      subst this
      rw [e1] at e1'
      cases e1'
      rw [e3, e3']
  · refine ⟨by rw [Array.size_replicate, sizeE], by rw [put_sz]; rfl, by rw [put_df], ⟨rfl, rfl, rfl, Nat.le_refl _, fun _ _ => rfl⟩, fun h => ?_, fun j k s v _ h => ?_, fun j _ h => ?_, fun h => ?_, fun h => ?_⟩ <;> (rw [Array.getElem?_replicate] at h; split at h <;> cases h)
  · rw [sizeE]; exact Nat.le_of_eq rfl
end Go.Proofs.Ytjllgiddmeiaoaa
