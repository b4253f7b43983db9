/-
  How arguments read that are structs of integers, or a struct of two parts.
-/
import Derived.Test.YteilkigdlkeiaaaLaw
namespace Go.Dial
open Go Go.ChangeShapes Go.WideShapes Go.ChangeAt Go.WideMaps Go.WideElems Go.RowKit

section
variable {H : Type} {enc : TypeId × Value → H} {P : Program} {w : World} {base : Nat} {spare : Nat → Bool} {held : Bool}

theorem take_one {cs : List Value} {i : Nat} (h : i < cs.length) : (cs.drop i).take 1 = [cs[i]] := by
  rw [List.drop_eq_getElem_cons h]; rfl
theorem list_ints {Q : Int → Prop} : ∀ {cs : List Value}, (∀ v ∈ cs, ∃ y : Int, v = .int .i64 y ∧ Q y) → ∃ ys : List Int, cs = ys.map (Value.int .i64) ∧ ∀ y ∈ ys, Q y
  | [], _ => ⟨[], rfl, by simp⟩
  | v :: cs, h => by
    obtain ⟨y, rfl, hy⟩ := h v (List.mem_cons_self ..)
    obtain ⟨ys, rfl, hys⟩ := list_ints (cs := cs) (fun u hu => h u (List.mem_cons_of_mem _ hu))
    exact ⟨y :: ys, rfl, fun z hz => by rcases List.mem_cons.1 hz with rfl | hz; exact hy; exact hys z hz⟩
/-- a struct whose fields are integers -/
theorem rd_ints {t ti n : Nat} {fs : Array Field} (hti : P.underlying ti = some (.int .i64)) (hc : P.cellsOf ti = 1) (ht : P.underlying t = some (.struct fs)) (hall : P.cellsOf t = n)
    (hfs : ((List.range n).all fun i => (fs[i]?).any fun f => f.type == ti && f.offset == i) = true) :
    Rd enc P w base spare held t (fun ys : List Int => ys.map (Value.int .i64)) (fun ys => ys.length = n ∧ ∀ y ∈ ys, -9223372036854775808 ≤ y ∧ y ≤ 9223372036854775807) := fun m cs x h => by
  obtain ⟨xs, k, _, _, hl, hn, hf⟩ := DataW.trod_struct ht h
  rw [hall] at hl
  have key : ∀ v ∈ cs, ∃ y : Int, v = .int .i64 y ∧ (-9223372036854775808 ≤ y ∧ y ≤ 9223372036854775807) := fun v hv => by
    obtain ⟨i, hi, rfl⟩ := List.getElem_of_mem hv
    have h1 := List.all_eq_true.1 hfs i (by simp; omega)
    cases hfi : fs[i]? with
    | none => rw [hfi] at h1; cases h1
    | some f =>
      rw [hfi] at h1
      simp at h1
      obtain ⟨h2, h3⟩ := h1
      have h4 := hf i f hfi
      have hix : i < xs.length := by rw [hn]; exact (Array.getElem?_eq_some_iff.1 hfi).1
      rw [h2, h3, hc, take_one hi, List.getElem?_eq_getElem hix] at h4
      obtain ⟨y, h5, h6⟩ := rd_i64 hti _ _ _ h4
      exact ⟨y, by simpa using h5, h6⟩
  obtain ⟨ys, h1, h2⟩ := list_ints key
  exact ⟨ys, h1, by rw [h1] at hl; simpa using hl, h2⟩
/-- a struct of two fields -/
theorem rd_two {t t1 t2 k1 k2 : Nat} {fs : Array Field} (ht : P.underlying t = some (.struct fs)) (hall : P.cellsOf t = k1 + k2) (hc1 : P.cellsOf t1 = k1) (hc2 : P.cellsOf t2 = k2)
    (hfs : ((fs[0]?).any fun f => f.type == t1 && f.offset == 0) = true) (hgs : ((fs[1]?).any fun f => f.type == t2 && f.offset == k1) = true)
    {α β : Type} {f : α → List Value} {g : β → List Value} {Q : α → Prop} {R : β → Prop} (h1 : Rd enc P w base spare held t1 f Q) (h2 : Rd enc P w base spare held t2 g R) :
    Rd enc P w base spare held t (fun p : α × β => f p.1 ++ g p.2) (fun p => Q p.1 ∧ R p.2) := fun m cs x h => by
  obtain ⟨xs, k, _, _, hl, hn, hf⟩ := DataW.trod_struct ht h
  rw [hall] at hl
  cases e1 : fs[0]? with
  | none => rw [e1] at hfs; cases hfs
  | some f1 =>
    cases e2 : fs[1]? with
    | none => rw [e2] at hgs; cases hgs
    | some f2 =>
      rw [e1] at hfs; rw [e2] at hgs
      simp at hfs hgs
      have g1 := hf 0 f1 e1
      have g2 := hf 1 f2 e2
      have l1 : 0 < xs.length := by rw [hn]; exact (Array.getElem?_eq_some_iff.1 e1).1
      have l2 : 1 < xs.length := by rw [hn]; exact (Array.getElem?_eq_some_iff.1 e2).1
      rw [hfs.1, hfs.2, hc1, List.getElem?_eq_getElem l1] at g1
      rw [hgs.1, hgs.2, hc2, List.getElem?_eq_getElem l2] at g2
      obtain ⟨y1, a1, b1⟩ := h1 _ _ _ g1
      obtain ⟨y2, a2, b2⟩ := h2 _ _ _ g2
      refine ⟨(y1, y2), ?_, b1, b2⟩
      show cs = f y1 ++ g y2
      rw [← a1, ← a2, List.drop_zero, List.take_of_length_le (l := cs.drop k1) (by simp; omega), List.take_append_drop]
theorem rd_map {α β : Type} {t : Nat} {f : α → List Value} {Q : α → Prop} {g : β → List Value} {R : β → Prop} (h : Rd enc P w base spare held t f Q) (hm : ∀ y, Q y → ∃ z, f y = g z ∧ R z) : Rd enc P w base spare held t g R := fun m cs x hx => by
  obtain ⟨y, h1, h2⟩ := h m cs x hx
  obtain ⟨z, h3, h4⟩ := hm y h2
  exact ⟨z, h1.trans h3, h4⟩
theorem list_of3 {α : Type} {l : List α} (h : l.length = 3) : ∃ a b c, l = [a, b, c] := by
  match l, h with
  | [a, b, c], _ => exact ⟨a, b, c, rfl⟩
theorem list_of4 {α : Type} {l : List α} (h : l.length = 4) : ∃ a b c d, l = [a, b, c, d] := by
  match l, h with
  | [a, b, c, d], _ => exact ⟨a, b, c, d, rfl⟩
end
end Go.Dial
