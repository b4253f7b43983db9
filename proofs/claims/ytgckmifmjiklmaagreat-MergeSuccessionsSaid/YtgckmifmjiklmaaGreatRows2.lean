/-
  Slices of structs whose fields are plain cells: reading, carrying, cutting; for whatever element type.
-/
import Derived.Test.YtgckmifmjiklmaaGreatBase
import Derived.Laws.OwnMore
import Derived.Deep.AppendLies
set_option linter.unusedVariables false
set_option linter.unusedSimpArgs false
set_option linter.unusedSectionVars false
namespace Go.Dial
open Go Go.RowKit

section
variable {α : Type} {f : α → List Value} {sz : Nat}
theorem flat_len (hf : ∀ y, (f y).length = sz) (l : List α) : (l.flatMap f).length = l.length * sz := by
  induction l with
  | nil => simp
  | cons b l ih => simp only [List.flatMap_cons, List.length_append, List.length_cons, ih, hf, Nat.succ_mul]; omega
theorem flat_get (hf : ∀ y, (f y).length = sz) {l : List α} {i : Nat} {y : α} (h : l[i]? = some y) {k : Nat} (hk : k < sz) : (l.flatMap f)[i * sz + k]? = (f y)[k]? := by
  induction l generalizing i with
  | nil => simp at h
  | cons x l ih =>
    cases i with
    | zero =>
      simp at h; subst h
      rw [List.flatMap_cons, List.getElem?_append_left (by rw [hf]; omega)]; congr 1; omega
    | succ i =>
      rw [List.flatMap_cons, List.getElem?_append_right (by rw [hf, Nat.succ_mul]; omega), hf]
      rw [← ih (i := i) (by simpa using h)]; congr 1; rw [Nat.succ_mul]; omega
/-- the cells of an element, as the walk spells them -/
def At3 (w : World) (p : Addr) (us : List Value) : Prop := ∀ k u, us[k]? = some u → (k = 0 → w.cell? p = some u) ∧ (∀ j, k = j + 1 → w.cell? ⟨p.block, p.off + (j + 1), none⟩ = some u)
theorem At3.c0 {w : World} {p : Addr} {u : Value} {us : List Value} (h : At3 w p (u :: us)) : w.cell? p = some u := (h 0 u rfl).1 rfl
theorem At3.ck {w : World} {p : Addr} {us : List Value} (h : At3 w p us) (k : Nat) {u : Value} (hk : us[k + 1]? = some u) : w.cell? ⟨p.block, p.off + (k + 1), none⟩ = some u := (h (k + 1) u hk).2 k rfl
theorem addr_succ (a : Addr) (n k : Nat) : a.add (n + (k + 1)) = ⟨(a.add n).block, (a.add n).off + (k + 1), none⟩ := by
  unfold Addr.add; rw [if_neg (by omega)]; split <;> simp <;> omega
theorem rows_at (hf : ∀ y, (f y).length = sz) {w : World} {B n : Nat} {A : Option Addr} {l : List α} (h : Span w B sz A n (l.flatMap f)) (hsz : 0 < sz) {i : Nat} {y : α} (hi : l[i]? = some y) :
    ∃ a, A = some a ∧ a.block < B ∧ At3 w (a.add (i * sz)) (f y) := by
  have g : ∀ k u, (f y)[k]? = some u → ∃ a, A = some a ∧ a.block < B ∧ w.cell? (a.add (i * sz + k)) = some u := fun k u hu => by
    have hk : k < sz := by rw [← hf y]; exact (List.getElem?_eq_some_iff.1 hu).1
    exact h.2 _ _ ((flat_get hf hi hk).trans hu)
  obtain ⟨u0, hu0⟩ : ∃ u, (f y)[0]? = some u := ⟨_, List.getElem?_eq_getElem (by rw [hf]; exact hsz)⟩
  obtain ⟨a, rfl, hb, h0⟩ := g 0 u0 hu0
  refine ⟨a, rfl, hb, fun k u hu => ⟨fun e => ?_, fun j e => ?_⟩⟩
  · subst e
    rw [hu0] at hu; cases hu
    exact h0
  · subst e
    obtain ⟨a', e1, _, h1⟩ := g (j + 1) u hu
    cases e1
    rw [← addr_succ]; exact h1
theorem span_pre {w : World} {B n k : Nat} {A : Option Addr} (hf : ∀ y, (f y).length = sz) {l : List α} (h : Span w B sz A n (l.flatMap f)) (hk : k ≤ l.length) : Span w B sz A k ((l.take k).flatMap f) := by
  have e : l.flatMap f = (l.take k).flatMap f ++ (l.drop k).flatMap f := by rw [← List.flatMap_append, List.take_append_drop]
  refine ⟨by rw [flat_len hf]; simp [Nat.min_eq_left hk], fun j u hu => h.2 j u ?_⟩
  rw [e, List.getElem?_append_left (List.getElem?_eq_some_iff.1 hu).1]; exact hu

/-- a slice value that reads as a list -/
def HoldsG (f : α → List Value) (sz : Nat) (w : World) (B : Nat) (v : Value) (l : List α) : Prop := ∃ A c, v = .slice A l.length c ∧ l.length ≤ c ∧ c ≤ maxLen ∧ Span w B sz A l.length (l.flatMap f)
theorem HoldsG.nil (w : World) (B : Nat) : HoldsG f sz w B (.slice none 0 0) [] := ⟨none, 0, rfl, Nat.le_refl _, Nat.zero_le _, Span.nil _ _ _ _⟩
theorem HoldsG.mono {w : World} {B B' : Nat} {v : Value} {l : List α} (h : HoldsG f sz w B v l) (hB : B ≤ B') : HoldsG f sz w B' v l := by
  obtain ⟨A, c, rfl, h1, h2, h3⟩ := h; exact ⟨A, c, rfl, h1, h2, h3.mono hB⟩
theorem HoldsG.later {w w' : World} {v : Value} {l : List α} (h : HoldsG f sz w w.heap.size v l) (hb : Below w.heap.size w w') : HoldsG f sz w' w'.heap.size v l := by
  obtain ⟨A, c, rfl, h1, h2, h3⟩ := h; exact ⟨A, c, rfl, h1, h2, (h3.below hb (Nat.le_refl _)).mono hb.size⟩
theorem HoldsG.keep {w w' : World} {B : Nat} {v : Value} {l : List α} (h : HoldsG f sz w B v l) (hk : ∀ k, k < B → w'.heap[k]? = w.heap[k]?) : HoldsG f sz w' B v l := by
  obtain ⟨A, c, rfl, h1, h2, h3⟩ := h
  exact ⟨A, c, rfl, h1, h2, h3.keep fun p hp => World.cell?_of_block (hk _ hp)⟩
theorem HoldsG.len {w : World} {B : Nat} {v : Value} {l : List α} (h : HoldsG f sz w B v l) : l.length ≤ maxLen := by
  obtain ⟨A, c, _, h1, h2, _⟩ := h; omega
theorem HoldsG.of_own {w : World} {base : Nat} {e : TypeId} {v : Value} {l : List α} (h : w.ownsRow base e sz v l.length (l.flatMap f)) : HoldsG f sz w w.heap.size v l := by
  rcases h.2 with ⟨hv, hn⟩ | ⟨g, cap, cur, hv, _, hg, h1, h2, _⟩
  · have : l = [] := List.eq_nil_of_length_eq_zero hn
    subst this; subst hv
    exact HoldsG.nil _ _
  · subst hv
    exact ⟨_, _, rfl, h1, h2, Span.of_own h⟩
end
section
variable {P : Program} {w : World}
theorem grown_refl (w : World) (r : Option Nat) : w.grownBy w r := ⟨rfl, rfl, rfl, Nat.le_refl _, fun _ _ _ => rfl⟩
/-- 'append(dst, src...)': dst is the call's own, src reads as a list, nil or not -/
theorem run_append_span (base : Nat) (t ty e : TypeId) (i : TypeInfo) (z : Value) (size bytes : Nat) (ht : P.underlying t = some (.slice e)) (hi : P.info? e = some i) (hz : i.zero = some z)
    (hsize : i.size = size) (hby : i.bytes = bytes) (hzs : z.cells.size = size) (hsz : 0 < size)
    (v : Value) (n : Nat) (xs : List Value) (hown : w.ownsRow base e size v n xs) (A : Option Addr) (m c B : Nat) (news : List Value) (hS : Span w B size A m news) (h1 : ∀ u ∈ news, u.oneCell' = true)
    (h63 : n + m ≤ maxLen) (hbytes : (n + m) * bytes ≤ 140737488355328) (hbase : base ≤ w.heap.size) :
    ∃ v' w', (Builtin.append_ #[t, t] ty #[v, .slice A m c]).run P w = .ok v' w' ∧ w'.ownsRow base e size v' (n + m) (xs ++ news) ∧ w.grownBy w' v.ownBlock := by
  cases A with
  | none =>
    have hn : news = [] := by
      cases news with
      | nil => rfl
      | cons u l => obtain ⟨a, ha, _⟩ := hS.2 0 u rfl; cases ha
    subst hn
    have hm : m = 0 := by
      have h0 := hS.1
      rw [List.length_nil] at h0
      rcases Nat.eq_zero_or_pos m with h | h
      · exact h
      · have := Nat.mul_pos h hsz; omega
    subst hm
    refine ⟨v, w, ?_, by simpa using hown, grown_refl _ _⟩
    rcases hown.2 with ⟨rfl, rfl⟩ | ⟨g, cap, cur, rfl, _, _, hnc, _⟩
    · simp [Builtin.append_, run_underlying ht, sizeOf, typeInfo, hi, Builtin.lenOf, Builtin.firstCells]
    · simp [Builtin.append_, run_underlying ht, sizeOf, typeInfo, hi, Builtin.lenOf, Builtin.firstCells, hnc, storeCells]
  | some a =>
    obtain ⟨v', w', h, h2, h3, _⟩ := run_append_own (P := P) w base t ty e i z size bytes ht hi hz hsize hby hzs hsz v n xs hown a m c news hS.1 (fun j u hu => by obtain ⟨a', e1, _, e2⟩ := hS.2 j u hu; cases e1; exact e2) h1 h63 hbytes hbase
    exact ⟨v', w', h, h2, h3⟩
theorem wpList_append_span {ops : Array Oper} {rest : List Oper} {o : Oper} {a : Act} {Q : Exit → Act → World → Prop} (hgd : o.guard = none) (s x : Operand) (t : TypeId)
    (ho : o.op = .call { callee := .builtin .append, args := #[s, x], argTypes := #[t, t] })
    (base : Nat) (e : TypeId) (i : TypeInfo) (z : Value) (size bytes : Nat) (ht : P.underlying t = some (.slice e)) (hi : P.info? e = some i) (hz : i.zero = some z)
    (hsize : i.size = size) (hby : i.bytes = bytes) (hzs : z.cells.size = size) (hsz : 0 < size)
    (v : Value) (n : Nat) (xs : List Value) (hs : a.eval s = v) (hown : w.ownsRow base e size v n xs) (A : Option Addr) (m c B : Nat) (news : List Value) (hx : a.eval x = .slice A m c) (hS : Span w B size A m news) (h1 : ∀ u ∈ news, u.oneCell' = true)
    (h63 : n + m ≤ maxLen) (hbytes : (n + m) * bytes ≤ 140737488355328) (hbase : base ≤ w.heap.size)
    (h : ∀ v' w', w'.ownsRow base e size v' (n + m) (xs ++ news) → w.grownBy w' v.ownBlock → wpList P ops Q rest (a.put o.dst v') w') : wpList P ops Q (o :: rest) a w := by
  refine wpList_plain hgd fun K hK => ?_
  obtain ⟨v', w', hrun, h2, h3⟩ := run_append_span (P := P) (w := w) base t o.type e i z size bytes ht hi hz hsize hby hzs hsz v n xs hown A m c B news hS h1 h63 hbytes hbase
  unfold Oper.wp execOp
  simp only [ho, resolve, invoke, builtin, Sem.run_bind, Sem.run_pure, Result.andThen_ok, List.map_toArray, List.map_cons, List.map_nil, hs, hx, hrun]
  exact hK _ _ (h v' w' h2 h3)
end
theorem keepcell {W W' : World} {p : Nat} {o : Obj} (h : W.heap[p]? = some o) (hb : Below W.heap.size W W') : W'.heap[p]? = some o := (hb.block _ (Array.getElem?_eq_some_iff.1 h).1).trans h
theorem newcell (w : World) (o : Obj) : (w.alloc o).heap[w.heap.size]? = some o := World.alloc_heap_new w o
theorem below_new (w : World) (o : Obj) : Below w.heap.size w (w.alloc o) := (Below.refl _ w).alloc (Nat.le_refl _) _
theorem below_then {A B C : World} (h : Below A.heap.size A B) (k : Below B.heap.size B C) : Below A.heap.size A C := h.trans (k.mono h.size)
theorem gcell {w : World} {p : Nat} {cs : List Value} {t : TypeId} {i : Nat} {v : Value} (h : w.heap[p]? = some (.cells cs.toArray t)) (hi : cs[i]? = some v) : w.cell? ⟨p, i, none⟩ = some v := by
  simp [World.cell?, h, hi]
theorem gfrozen {w : World} {p : Nat} {cs : Array Value} {t : TypeId} (h : w.heap[p]? = some (.cells cs t)) (i : Nat) : w.frozen? ⟨p, i, none⟩ = false := by
  simp [World.frozen?, h]
theorem oldcell {w : World} {p : Nat} {x : Obj} (o : Obj) (h : w.heap[p]? = some x) : (w.alloc o).heap[p]? = some x :=
  (Below.heap_alloc _ _ _ (Array.getElem?_eq_some_iff.1 h).1).trans h
theorem heap_lt {w : World} {p : Nat} {x : Obj} (h : w.heap[p]? = some x) : p < w.heap.size := (Array.getElem?_eq_some_iff.1 h).1
theorem below_new2 (w : World) (o o' : Obj) : Below w.heap.size w ((w.alloc o).alloc o') := below_then (below_new _ _) (below_new _ _)
theorem below_new3 (w : World) (o o' o'' : Obj) : Below w.heap.size w (((w.alloc o).alloc o').alloc o'') := below_then (below_new2 _ _ _) (below_new _ _)
theorem below_drewN {B : Nat} {a w : World} (h : Below B a w) (n : Nat) : Below B a (w.drewN n) := h.trans ⟨rfl, rfl, rfl, Nat.le_refl _, fun _ _ => rfl⟩
end Go.Dial
