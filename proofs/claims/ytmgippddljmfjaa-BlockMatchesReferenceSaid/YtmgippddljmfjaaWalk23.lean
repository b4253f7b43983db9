/-
  What the laws use: Made of the first few of a list; cells that are carried from world to world.
-/
import Derived.Test.YtmgippddljmfjaaWalk22
import Derived.Deep.DeepCutAuto
namespace Go.Proofs.Ytmgippddljmfjaa
open Go Go.RowKit Go.Dial Go.Dial.Blk

theorem cell_keep {W W' : World} {p : Nat} {o : Obj} (h : W.heap[p]? = some o) (hb : Below W.heap.size W W') : W'.heap[p]? = some o := (hb.block _ (Array.getElem?_eq_some_iff.1 h).1).trans h
theorem cell2 {W : World} {p : Nat} {x y : Value} {t : TypeId} (h : W.heap[p]? = some (.cells #[x, y] t)) : W.cell? ⟨p, 0, none⟩ = some x ∧ W.cell? ⟨p, 1, none⟩ = some y ∧ p < W.heap.size :=
  ⟨blk_cell (cs := [x, y]) h (i := 0) rfl, blk_cell (cs := [x, y]) h (i := 1) rfl, (Array.getElem?_eq_some_iff.1 h).1⟩
theorem car_pick (c : Int) : carB (pickV c 8) = true := by have := pickV_bd c (show (0 : Int) < 8 by decide); exact carB_iff.2 (by omega)
theorem span_take {w : World} {B n k : Nat} {A : Option Addr} {xs : List (Int × Int × Int)} (h : Span w B 3 A n (tcs xs)) (hk : k ≤ xs.length) : Span w B 3 A k (tcs (xs.take k)) := by
  have hl : ∀ l : List (Int × Int × Int), (tcs l).length = l.length * 3 := fun l => by
    induction l with
    | nil => rfl
    | cons b l ih => simp only [tcs, List.flatMap_cons, List.length_append, List.length_cons] at ih ⊢; simp [tcells, ih]; omega
  have e : tcs xs = tcs (xs.take k) ++ tcs (xs.drop k) := by rw [tcs, tcs, tcs, ← List.flatMap_append, List.take_append_drop]
  refine ⟨by rw [hl]; simp; omega, fun j u hu => h.2 j u ?_⟩
  rw [e, List.getElem?_append_left (List.getElem?_eq_some_iff.1 hu).1]; exact hu
theorem madeK_any (k n : Nat) (A : Option Addr) (c : Nat) (xs : List (Int × Int × Int)) (w : World) (hn : n = min xs.length k) (hlen : xs.length ≤ 9223372036854775807) (hS : Span w w.heap.size 3 A xs.length (tcs xs)) (hT : ∀ x ∈ xs, Tri x) :
    Calls Try.prog 12 #[.slice A n c] w fun e w' => (∃ v, e = .returned v ∧ HoldsB w' w'.heap.size v (madeV (xs.take k))) ∧ Below w.heap.size w w' := by
  have e1 : xs.take k = xs.take n := by
    rw [hn]
    rcases Nat.le_total xs.length k with h | h
    · rw [Nat.min_eq_left h, List.take_of_length_le h, List.take_length]
    · rw [Nat.min_eq_right h]
  have e2 : (xs.take n).length = n := by simp; omega
  rw [e1]
  have := made_any A c (xs.take n) w (by rw [e2]; unfold maxLen; omega) (by rw [e2]; exact span_take hS (by omega)) (fun x hx => hT x (List.mem_of_mem_take hx))
  rwa [e2] at this
theorem madeK_mk (k : Nat) (xs : List (Int × Int × Int)) : Mk k (madeV (xs.take k)) := (made_mk (xs.take k)).mono (by simp; omega)
end Go.Proofs.Ytmgippddljmfjaa
