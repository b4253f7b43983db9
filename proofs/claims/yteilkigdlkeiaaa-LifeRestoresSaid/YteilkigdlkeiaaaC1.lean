/-
  What the laws of life share: the law's opening, parts of a list of events, the loop up to a time.
-/
import Derived.Test.YteilkigdlkeiaaaR7
import Derived.Test.YteilkigdlkeiaaaLifQ
namespace Go.Proofs.Yteilkigdlkeiaaa
open Go Go.RowKit Go.Dial Go.Dial.Lif

theorem small_all {es : List Ev} (h : All first es) : Small es := fun e he => ⟨(all_frm h e he).2.2.1, (all_frm h e he).2.2.2.1⟩
theorem holds_cap {α : Type} {f : α → List Value} {sz n c : Nat} {W : World} {B : Nat} {A : Option Addr} {l : List α} (h : HoldsG f sz W B (.slice A n c) l) : l.length = n ∧ n ≤ c ∧ c ≤ 9223372036854775807 := by
  obtain ⟨A', c', e, h1, h2, _⟩ := h
  cases e; exact ⟨rfl, h1, h2⟩
theorem holds_take {α : Type} {f : α → List Value} {sz n c k : Nat} (hf : ∀ y, (f y).length = sz) {W : World} {B : Nat} {A : Option Addr} {l : List α} (h : HoldsG f sz W B (.slice A n c) l) (hk : k ≤ n) : HoldsG f sz W B (.slice A k c) (l.take k) := by
  obtain ⟨A', c', e, h1, h2, h3⟩ := h
  cases e
  have hl : (l.take k).length = k := by simp; omega
  refine ⟨A, c, by rw [hl], by rw [hl]; omega, h2, ?_⟩
  rw [hl]; exact span_pre hf h3 hk
theorem ev_at {es : List Ev} {A : Option Addr} {n c j : Nat} {W : World} {B : Nat} (h : HoldsG evc 3 W B (.slice A n c) es) (hj : j < es.length) :
    ∃ ad : Addr, A = some ad ∧ W.cell? (ad.add (j * 3)) = some (.int .i64 es[j].k) ∧ W.cell? ⟨(ad.add (j * 3)).block, (ad.add (j * 3)).off + 1, none⟩ = some (.int .i64 es[j].a) ∧ W.cell? ⟨(ad.add (j * 3)).block, (ad.add (j * 3)).off + 2, none⟩ = some (.int .i64 es[j].h) := by
  obtain ⟨A', c', e, h1, h2, h3⟩ := h
  cases e
  obtain ⟨ad, hA, _, hat⟩ := rows_at evc_len h3 (by decide) (List.getElem?_eq_getElem hj)
  exact ⟨ad, hA, hat.c0, hat.ck 0 rfl, hat.ck 1 rfl⟩
theorem fin_take_at {es : List Ev} (h : Life es) (t : Int) : runR (es.take (upto es t)) = ((atL es t, upto es t), 0) := by
  rw [runR_life (life_take h _)]
  have : (es.take (upto es t)).length = upto es t := by have := upto_le es t; simp; omega
  rw [this]; rfl
theorem atR_ok {es : List Ev} (h : Life es) {t : Int} (h0 : 0 ≤ t) (h1 : t ≤ 10000000) : atR es t = (atL es t, 0) := if_pos ⟨h, h0, h1⟩
/-- a line lies in a block -/
def LnAt (W : World) (q : Nat) (l : Ln) : Prop := W.heap[q]? = some (.cells #[.int .i64 l.s, .int .i64 l.h, .int .i64 l.e, .int .i64 l.t] 26)
theorem LnAt.later {W W' : World} {q : Nat} {l : Ln} (h : LnAt W q l) (hb : Below W.heap.size W W') : LnAt W' q l := keepcell h hb
theorem LnAt.cells {W : World} {q : Nat} {l : Ln} (h : LnAt W q l) : W.cell? ⟨q, 0, none⟩ = some (.int .i64 l.s) ∧ W.cell? ⟨q, 1, none⟩ = some (.int .i64 l.h) ∧ W.cell? ⟨q, 2, none⟩ = some (.int .i64 l.e) ∧ W.cell? ⟨q, 3, none⟩ = some (.int .i64 l.t) ∧ q < W.heap.size := by
  obtain ⟨a, b, c, d, _, _, _, _, e⟩ := ln_cells h
  exact ⟨a, b, c, d, e⟩
theorem LnAt.new (w : World) (l : Ln) : LnAt (w.alloc (.cells #[.int .i64 l.s, .int .i64 l.h, .int .i64 l.e, .int .i64 l.t] 26)) w.heap.size l := newcell _ _
def MlAt (W : World) (q : Nat) (x y : Int) : Prop := W.heap[q]? = some (.cells #[.int .i64 x, .int .i64 y] 28)
theorem MlAt.later {W W' : World} {q : Nat} {x y : Int} (h : MlAt W q x y) (hb : Below W.heap.size W W') : MlAt W' q x y := keepcell h hb
theorem MlAt.cells {W : World} {q : Nat} {x y : Int} (h : MlAt W q x y) : W.cell? ⟨q, 0, none⟩ = some (.int .i64 x) ∧ W.cell? ⟨q, 1, none⟩ = some (.int .i64 y) ∧ q < W.heap.size :=
  ⟨gcell (cs := [.int .i64 x, .int .i64 y]) h (i := 0) rfl, gcell (cs := [.int .i64 x, .int .i64 y]) h (i := 1) rfl, heap_lt h⟩
theorem MlAt.new (w : World) (x y : Int) : MlAt (w.alloc (.cells #[.int .i64 x, .int .i64 y] 28)) w.heap.size x y := newcell _ _
end Go.Proofs.Yteilkigdlkeiaaa
