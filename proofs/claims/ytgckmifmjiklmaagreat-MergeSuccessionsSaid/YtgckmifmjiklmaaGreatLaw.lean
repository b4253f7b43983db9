/-
  The frame of a law: the call returns true and turns nothing that was there: the row's 'post' out of that, whatever the arguments' types.
-/
import Derived.ProofKit
import Derived.LaidMore
import Derived.OpenShut
import Derived.Stop.Joined
import Derived.SevenTiedAt
import Derived.Test.YtgckmifmjiklmaaGreatBase
set_option linter.unusedVariables false
set_option linter.unusedSimpArgs false
set_option linter.unusedSectionVars false
namespace Go.Dial
open Go Go.ChangeShapes Go.WideShapes Go.ChangeAt Go.WideMaps Go.WideElems Go.RowKit

section
variable {H : Type} {enc : TypeId × Value → H} {P : Program}

theorem trodAll_below (hl : laidOutB P = true) {W W' : World} (hb : Below W.heap.size W W') : ∀ (ts : List TypeId), (∀ t ∈ ts, P.readableRec t = true ∧ t < P.types.size) →
    ∀ {vs : List Value} {ds : List (DataW H)} {ps : List MemPlace}, DataW.TrodAll enc P W 0 (fun _ => true) true ts vs ds ps → DataW.TrodAll enc P W' 0 (fun b => decide (b < W.heap.size)) true ts vs ds ps
  | [], _, _, _, _, h => by
    obtain ⟨rfl, rfl, rfl⟩ := trodAll_nil h
    exact trodAll_mk0
  | t :: ts, ht, _, _, _, h => by
    have hlt := DataW.TrodAll.lt h
    obtain ⟨v, vs1, d, ds1, a, b, rfl, rfl, rfl, h1, h2⟩ := trodAll_cons h
    have ht0 := ht t (List.mem_cons_self ..)
    exact trodAll_cons_mk (Below.trod hl ht0.1 ht0.2 h1 hb (fun x hx => hlt x (List.mem_append_left _ hx))) (trodAll_below hl hb ts (fun t' h' => ht t' (List.mem_cons_of_mem _ h')) h2)

theorem law_post {fn : Func} {s : ChangeSpec} {W W' : World} {args : Array Value} {ds gs : List (DataW H)} {before : List MemPlace} {tb : TypeId}
    (hW : DataW.Whole enc P fn.params.toList s.vars false W args.toList ds gs before) (hv : s.vars = [])
    (hs1 : (s.fn H (ds ++ [])).results = [.lit (.bool true)]) (hs2 : (s.fn H (ds ++ [])).args = ds) (hs3 : (s.fn H (ds ++ [])).vars = [])
    (hl : laidOutB P = true) (hr : ∀ t ∈ fn.params.toList, P.readableRec t = true ∧ t < P.types.size) (hres : fn.resultTypes = #[tb]) (htb : P.underlying tb = some .bool)
    (hb : Below W.heap.size W W') : s.post enc P fn false true false false W args (.bool true) W' := by
  have hW' := hW
  obtain ⟨p, q, hA, hV, rfl, _, _⟩ := hW
  rw [hv] at hV
  obtain ⟨rfl, rfl⟩ := trodVars_none hV
  refine ⟨ds, [], _, [], p, [], hW', ?_, ?_, ?_, hb.frame _, fun h => by cases h⟩
  · rw [hs1, hres]; exact trodAll_mk1 (shut_bool htb true)
  · rw [hs2]; exact trodAll_below hl hb _ hr hA
  · rw [hs3, hv]; rfl
end

theorem all_read {P : Program} {ts : List TypeId} (h : (ts.all fun t => P.readableRec t && decide (t < P.types.size)) = true) : ∀ t ∈ ts, P.readableRec t = true ∧ t < P.types.size := fun t ht => by
  simpa using List.all_eq_true.1 h t ht
theorem none_wants {P : Program} {ts : List TypeId} (h : (ts.all fun u => !P.wantsStandIn u) = true) : ∀ (j : Nat) (t : TypeId), ts.toArray[j]? = some t → P.wantsStandIn t = false := fun j t ht => by
  have hm : t ∈ ts := by simpa using Array.mem_of_getElem? ht
  simpa using List.all_eq_true.1 h t hm

theorem list2 {α : Type} {l : List α} (h : l.length = 2) : ∃ a b, l = [a, b] := by
  match l, h with
  | [a, b], _ => exact ⟨a, b, rfl⟩

/-- a string that comes in -/
theorem in_string {H : Type} {enc : TypeId × Value → H} {P : Program} {W : World} {base : Nat} {t : TypeId} {v : Value} {d : DataW H} {ps : List MemPlace} (ht : P.underlying t = some .string)
    (hok : Value.okWide P W .any base t v) (h : DataW.Trod enc P W 0 (fun _ => true) true t v d ps) : ∃ s : ByteArray, v = .string s ∧ s.size ≤ maxLen := by
  obtain ⟨s, rfl, rfl, rfl, hs⟩ := Go.ChangeMaps.open_string ht hok h
  exact ⟨s, rfl, hs⟩
theorem in_int {H : Type} {enc : TypeId × Value → H} {P : Program} {W : World} {base : Nat} {t : TypeId} {k : IntKind} {v : Value} {d : DataW H} {ps : List MemPlace} (ht : P.underlying t = some (.int k))
    (hok : Value.okWide P W .any base t v) (h : DataW.Trod enc P W 0 (fun _ => true) true t v d ps) : ∃ n : Int, v = .int k n ∧ (Lit.int k n).wf = true := by
  obtain ⟨x, rfl, rfl, rfl, wx⟩ := open_int ht hok h
  exact ⟨x, rfl, wx⟩
theorem in_u32 {H : Type} {enc : TypeId × Value → H} {P : Program} {W : World} {base : Nat} {t : TypeId} {v : Value} {d : DataW H} {ps : List MemPlace} (ht : P.underlying t = some (.int .u32))
    (hok : Value.okWide P W .any base t v) (h : DataW.Trod enc P W 0 (fun _ => true) true t v d ps) : ∃ n : Nat, v = .int .u32 (n : Int) ∧ n < 4294967296 := by
  obtain ⟨x, rfl, wx⟩ := in_int ht hok h
  simp [Lit.wf, IntKind.min, IntKind.max, IntKind.signed, IntKind.bits] at wx
  obtain ⟨n, rfl⟩ := Int.eq_ofNat_of_zero_le (by omega : 0 ≤ x)
  exact ⟨n, rfl, by omega⟩
theorem in_i64 {H : Type} {enc : TypeId × Value → H} {P : Program} {W : World} {base : Nat} {t : TypeId} {v : Value} {d : DataW H} {ps : List MemPlace} (ht : P.underlying t = some (.int .i64))
    (hok : Value.okWide P W .any base t v) (h : DataW.Trod enc P W 0 (fun _ => true) true t v d ps) : ∃ n : Int, v = .int .i64 n ∧ -9223372036854775808 ≤ n ∧ n ≤ 9223372036854775807 := by
  obtain ⟨x, rfl, rfl, rfl, wx⟩ := open_int ht hok h
  simp [Lit.wf, IntKind.min, IntKind.max, IntKind.signed, IntKind.bits] at wx
  exact ⟨x, rfl, by omega, by omega⟩

section
variable {H : Type} {enc : TypeId × Value → H} {P : Program} {w : World} {base : Nat} {spare : Nat → Bool} {held : Bool}

/-- the reading of a type: its cells are the encoding of some y that meets Q -/
def Rd (enc : TypeId × Value → H) (P : Program) (w : World) (base : Nat) (spare : Nat → Bool) (held : Bool) (t : TypeId) {α : Type} (f : α → List Value) (Q : α → Prop) : Prop :=
  ∀ m cs x, DataW.trod enc P w base spare held m t cs = some x → ∃ y, cs = f y ∧ Q y

theorem rd_int {t : TypeId} {k : IntKind} (ht : P.underlying t = some (.int k)) : Rd enc P w base spare held t (fun n : Int => [.int k n]) (fun n => (Lit.int k n).wf = true) := fun m cs x h => by
  obtain ⟨n, h1, _, h3⟩ := DataW.trod_int ht h
  exact ⟨n, h1, h3⟩
theorem rd_i64 {t : TypeId} (ht : P.underlying t = some (.int .i64)) : Rd enc P w base spare held t (fun n : Int => [.int .i64 n]) (fun n => -9223372036854775808 ≤ n ∧ n ≤ 9223372036854775807) := fun m cs x h => by
  obtain ⟨n, h1, h3⟩ := rd_int ht m cs x h
  simp [Lit.wf, IntKind.min, IntKind.max, IntKind.signed, IntKind.bits] at h3
  exact ⟨n, h1, by omega, by omega⟩
theorem rd_string {t : TypeId} (ht : P.underlying t = some .string) : Rd enc P w base spare held t (fun s : ByteArray => [.string s]) (fun s => s.size ≤ maxLen) := fun m cs x h => by
  obtain ⟨n, h1, _, h3⟩ := DataW.trod_string ht h
  exact ⟨n, h1, h3⟩

theorem cells_at {w : World} {base : Nat} {a : Addr} {n : Nat} {l : List Value} (h : w.cells? base a n = some l) : l.length = n ∧ ∀ j, j < n → w.cell? (a.add j) = l[j]? := by
  unfold World.cells? at h
  split at h
  · refine ⟨by simpa using mapM_some_length h, fun j hj => ?_⟩
    simpa using mapM_some_get h j j (by simp [hj])
  · cases h

/-- an array: its elements one after the other -/
theorem rd_array {t e : TypeId} {n sz : Nat} (ht : P.underlying t = some (.array n e)) (hsz : P.cellsOf e = sz) (hall : P.cellsOf t = n * sz) {α : Type} {f : α → List Value} {Q : α → Prop}
    (hR : Rd enc P w base spare held e f Q) : Rd enc P w base spare held t (fun ys : List α => ys.flatMap f) (fun ys => ys.length = n ∧ ∀ y ∈ ys, Q y) := fun m cs x h => by
  obtain ⟨xs, m', _, _, hlen, hn, hel⟩ := DataW.trod_array ht h
  rw [hsz] at hel
  have key : ∀ k, k ≤ n → ∃ ys : List α, ys.length = k ∧ cs.take (k * sz) = ys.flatMap f ∧ ∀ y ∈ ys, Q y := by
    intro k
    induction k with
    | zero => intro _; exact ⟨[], rfl, by simp, by simp⟩
    | succ k ih =>
      intro hk
      obtain ⟨ys, h1, h2, h3⟩ := ih (by omega)
      have hx := hel k (by omega)
      rw [List.getElem?_eq_getElem (by omega)] at hx
      obtain ⟨y, hy, hQ⟩ := hR _ _ _ hx
      refine ⟨ys ++ [y], by simp [h1], ?_, fun z hz => ?_⟩
      · rw [Nat.succ_mul, List.take_add, h2, hy]; simp
      · rcases List.mem_append.1 hz with hz | hz
        · exact h3 z hz
        · simp at hz; subst hz; exact hQ
  obtain ⟨ys, h1, h2, h3⟩ := key n (Nat.le_refl _)
  exact ⟨ys, by show cs = ys.flatMap f; rw [← h2, List.take_of_length_le (by omega)], h1, h3⟩

/-- what a slice comes with: its address, its capacity, its elements -/
structure Sl (α : Type) where
  A : Option Addr
  cap : Nat
  ys : List α
def Sl.cells {α : Type} (s : Sl α) : List Value := [.slice s.A s.ys.length s.cap]

/-- a slice: its elements lie in memory -/
theorem rd_slice {t e : TypeId} {sz : Nat} (ht : P.underlying t = some (.slice e)) (hsz : P.cellsOf e = sz) {α : Type} {f : α → List Value} {Q : α → Prop} (hf : ∀ y, (f y).length = sz)
    (hR : Rd enc P w base spare held e f Q) : Rd enc P w base spare held t (Sl.cells (α := α)) (fun s => s.ys.length ≤ s.cap ∧ s.cap ≤ maxLen ∧ Span w w.heap.size sz s.A s.ys.length (s.ys.flatMap f) ∧ ∀ y ∈ s.ys, Q y) := fun m cs x h => by
  rcases DataW.trod_slice ht h with ⟨rfl, _⟩ | ⟨a, len, cap, elems, rest, n, _, rfl, _, _, hl, hc, hlen, hel, _⟩
  · exact ⟨⟨none, 0, []⟩, rfl, Nat.le_refl _, Nat.zero_le _, Span.nil _ _ _ _, by simp⟩
  · rw [hsz] at hel
    have key : ∀ k, k ≤ len → ∃ ys : List α, ys.length = k ∧ (∀ j u, (ys.flatMap f)[j]? = some u → w.cell? (a.add j) = some u) ∧ (ys.flatMap f).length = k * sz ∧ ∀ y ∈ ys, Q y := by
      intro k
      induction k with
      | zero => intro _; exact ⟨[], rfl, by simp, by simp, by simp⟩
      | succ k ih =>
        intro hk
        obtain ⟨ys, h1, h2, h3, h4⟩ := ih (by omega)
        have hx := hel k (by omega)
        rw [List.getElem?_eq_getElem (by omega)] at hx
        obtain ⟨l, hl1, hl2⟩ := Option.bind_eq_some_iff.1 hx
        obtain ⟨y, hy, hQ⟩ := hR _ _ _ hl2
        obtain ⟨hll, hlc⟩ := cells_at hl1
        subst hy
        refine ⟨ys ++ [y], by simp [h1], fun j u hu => ?_, by simp [h3, hf, Nat.succ_mul], fun z hz => ?_⟩
        · simp only [List.flatMap_append, List.flatMap_cons, List.flatMap_nil, List.append_nil] at hu
          by_cases hj : j < k * sz
          · rw [List.getElem?_append_left (by omega)] at hu
            exact h2 j u hu
          · rw [List.getElem?_append_right (by omega), h3] at hu
            have hj2 : j - k * sz < sz := by
              rcases Nat.lt_or_ge (j - k * sz) sz with h | h
              · exact h
              · rw [List.getElem?_eq_none (by rw [hf]; exact h)] at hu; cases hu
            have := hlc (j - k * sz) hj2
            rw [add_add, hu, show k * sz + (j - k * sz) = j by omega] at this
            exact this
        · rcases List.mem_append.1 hz with hz | hz
          · exact h4 z hz
          · simp at hz; subst hz; exact hQ
    obtain ⟨ys, h1, h2, h3, h4⟩ := key len (Nat.le_refl _)
    subst h1
    refine ⟨⟨some a, cap, ys⟩, rfl, hl, hc, ⟨h3, fun j u hu => ⟨a, rfl, ?_, h2 j u hu⟩⟩, h4⟩
    have := World.block_lt_of_cell? w _ (h2 j u hu)
    rwa [add_block] at this

/-- an argument that is one cell -/
theorem in_cell {W : World} {b : Nat} {t : TypeId} {v : Value} {d : DataW H} {ps : List MemPlace} {α : Type} {f : α → Value} {Q : α → Prop}
    (hR : Rd enc P W 0 (fun _ => true) true t (fun y => [f y]) Q) (hpl : ∀ cs, v ≠ .agg cs) (h : DataW.Trod enc P W 0 (fun _ => true) true t v d ps) (_ : Value.okWide P W .any b t v) : ∃ y, v = f y ∧ Q y := by
  obtain ⟨fuel, hf⟩ := h
  obtain ⟨y, hy, hQ⟩ := hR _ _ _ hf
  refine ⟨y, ?_, hQ⟩
  cases v <;> first | exact absurd rfl (hpl _) | simpa [Value.cells] using hy
/-- an argument that is a struct or an array -/
theorem in_agg {W : World} {b : Nat} {t : TypeId} {v : Value} {d : DataW H} {ps : List MemPlace} {α : Type} {f : α → List Value} {Q : α → Prop}
    (hR : Rd enc P W 0 (fun _ => true) true t f Q) (ht : (∃ fs, P.underlying t = some (.struct fs)) ∨ ∃ n e, P.underlying t = some (.array n e)) (hok : Value.okWide P W .any b t v)
    (h : DataW.Trod enc P W 0 (fun _ => true) true t v d ps) : ∃ y, v = .agg (f y).toArray ∧ Q y := by
  have hv : ∃ cs, v = .agg cs := by
    rcases ht with ⟨fs, ht⟩ | ⟨n, e, ht⟩
    · simp only [Value.okWide, ht] at hok
      obtain ⟨cs, h1, _⟩ := hok; exact ⟨cs, h1⟩
    · simp only [Value.okWide, ht] at hok
      obtain ⟨cs, h1, _⟩ := hok; exact ⟨cs, h1⟩
  obtain ⟨cs, rfl⟩ := hv
  obtain ⟨fuel, hf⟩ := h
  obtain ⟨y, hy, hQ⟩ := hR _ _ _ hf
  exact ⟨y, by rw [← hy]; rfl, hQ⟩
/-- an argument that is a slice -/
theorem in_slice {W : World} {b : Nat} {t e : TypeId} {v : Value} {d : DataW H} {ps : List MemPlace} {α : Type} {Q : Sl α → Prop} (ht : P.underlying t = some (.slice e))
    (hR : Rd enc P W 0 (fun _ => true) true t (Sl.cells (α := α)) Q) (hok : Value.okWide P W .any b t v)
    (h : DataW.Trod enc P W 0 (fun _ => true) true t v d ps) : ∃ s : Sl α, v = .slice s.A s.ys.length s.cap ∧ Q s := by
  obtain ⟨a, len, cap, rfl⟩ := okWide_slice ht hok
  obtain ⟨fuel, hf⟩ := h
  obtain ⟨y, hy, hQ⟩ := hR _ _ _ hf
  exact ⟨y, by simpa [Value.cells, Sl.cells] using hy, hQ⟩
end
end Go.Dial
