/-
  Arguments of the laws: rows of seven and of eight integers.
-/
import Derived.Test.YtgckmifmjiklmaaGreatMf
import Derived.Test.YtgckmifmjiklmaaGreatNa
set_option linter.unusedVariables false
set_option linter.unusedSimpArgs false
set_option maxRecDepth 100000
namespace Go.Proofs.YtgckmifmjiklmaaGreat
open Go Go.Sx Go.Dial.Blk Go.Dial.Mrg
abbrev Sev := Int × Int × Int × Int × Int × Int × Int
abbrev sevR (x : Sev) : List AV := [.int x.1, .int x.2.1, .int x.2.2.1, .int x.2.2.2.1, .int x.2.2.2.2.1, .int x.2.2.2.2.2.1, .int x.2.2.2.2.2.2]
def Sev64 (x : Sev) : Prop := In64 x.1 ∧ In64 x.2.1 ∧ In64 x.2.2.1 ∧ In64 x.2.2.2.1 ∧ In64 x.2.2.2.2.1 ∧ In64 x.2.2.2.2.2.1 ∧ In64 x.2.2.2.2.2.2
theorem list7 {α : Type} {l : List α} (h : l.length = 7) : ∃ a b c d e f g, l = [a, b, c, d, e, f, g] := by
  match l, h with
  | [a, b, c, d, e, f, g], _ => exact ⟨a, b, c, d, e, f, g, rfl⟩
theorem list8 {α : Type} {l : List α} (h : l.length = 8) : ∃ a b c d e f g i, l = [a, b, c, d, e, f, g, i] := by
  match l, h with
  | [a, b, c, d, e, f, g, i], _ => exact ⟨a, b, c, d, e, f, g, i, rfl⟩
theorem seven {r : List AV} (h : r.map AV.ty = [.int, .int, .int, .int, .int, .int, .int]) (hok : ∀ x ∈ r, AVok x) : ∃ x : Sev, r = sevR x ∧ Sev64 x := by
  obtain ⟨a, b, c, d, e, f, g, rfl⟩ := list7 (l := r) (by have := congrArg List.length h; simpa using this)
  simp only [List.map_cons, List.map_nil, List.cons.injEq, and_true] at h
  obtain ⟨k0, k1, k2, k3, k4, k5, k6⟩ := h
  obtain ⟨a, rfl, h1⟩ := (hok a (by simp)).i k0
  obtain ⟨b, rfl, h2⟩ := (hok b (by simp)).i k1
  obtain ⟨c, rfl, h3⟩ := (hok c (by simp)).i k2
  obtain ⟨d, rfl, h4⟩ := (hok d (by simp)).i k3
  obtain ⟨e, rfl, h5⟩ := (hok e (by simp)).i k4
  obtain ⟨f, rfl, h6⟩ := (hok f (by simp)).i k5
  obtain ⟨g, rfl, h7⟩ := (hok g (by simp)).i k6
  exact ⟨(a, b, c, d, e, f, g), rfl, h1, h2, h3, h4, h5, h6, h7⟩
theorem sevs_of {l : Lv} {t : Ty} (ht : t.list = [.int, .int, .int, .int, .int, .int, .int]) (h : AVok (.sl t l)) : ∃ xs : List Sev, l = xs.map sevR ∧ ∀ x ∈ xs, Sev64 x := by
  cases h with
  | sl _ _ _ hty hr => exact rows_of fun r hm => seven (by rw [hty r hm, ht]) (hr r hm)
theorem scell {xs : List Sev} {i : Nat} {x : Sev} (h : xs[i]? = some x) : cI (xs.map sevR) (i : Int) 0 = x.1 ∧ cI (xs.map sevR) (i : Int) 1 = x.2.1 ∧ cI (xs.map sevR) (i : Int) 2 = x.2.2.1 ∧ cI (xs.map sevR) (i : Int) 3 = x.2.2.2.1 ∧ cI (xs.map sevR) (i : Int) 4 = x.2.2.2.2.1 ∧ cI (xs.map sevR) (i : Int) 5 = x.2.2.2.2.2.1 ∧ cI (xs.map sevR) (i : Int) 6 = x.2.2.2.2.2.2 := by
  have hc : ∀ k, cA (xs.map sevR) (i : Int) k = (sevR x).getD k (.int 0) := fun k => cA_map (by simpa using h)
  refine ⟨?_, ?_, ?_, ?_, ?_, ?_, ?_⟩ <;> (simp only [cI, hc]; rfl)
/-- an event of integers of 64 bits -/
def Ev64 (e : Ev) : Prop := In64 e.k ∧ In64 e.at_ ∧ In64 e.a ∧ In64 e.b ∧ In64 e.c ∧ In64 e.f ∧ In64 e.t ∧ In64 e.m
theorem eight {r : List AV} (h : r.map AV.ty = [.int, .int, .int, .int, .int, .int, .int, .int]) (hok : ∀ x ∈ r, AVok x) : ∃ e : Ev, r = evR e ∧ Ev64 e := by
  obtain ⟨a, b, c, d, e, f, g, i, rfl⟩ := list8 (l := r) (by have := congrArg List.length h; simpa using this)
  simp only [List.map_cons, List.map_nil, List.cons.injEq, and_true] at h
  obtain ⟨k0, k1, k2, k3, k4, k5, k6, k7⟩ := h
  obtain ⟨a, rfl, h1⟩ := (hok a (by simp)).i k0
  obtain ⟨b, rfl, h2⟩ := (hok b (by simp)).i k1
  obtain ⟨c, rfl, h3⟩ := (hok c (by simp)).i k2
  obtain ⟨d, rfl, h4⟩ := (hok d (by simp)).i k3
  obtain ⟨e, rfl, h5⟩ := (hok e (by simp)).i k4
  obtain ⟨f, rfl, h6⟩ := (hok f (by simp)).i k5
  obtain ⟨g, rfl, h7⟩ := (hok g (by simp)).i k6
  obtain ⟨i, rfl, h8⟩ := (hok i (by simp)).i k7
  exact ⟨⟨a, b, c, d, e, f, g, i⟩, rfl, h1, h2, h3, h4, h5, h6, h7, h8⟩
theorem evs_of {l : Lv} {t : Ty} (ht : t.list = [.int, .int, .int, .int, .int, .int, .int, .int]) (h : AVok (.sl t l)) : ∃ xs : List Ev, l = evL xs ∧ xs.length ≤ maxLen ∧ ∀ x ∈ xs, Ev64 x := by
  cases h with
  | sl _ _ hlen hty hr =>
    obtain ⟨xs, h1, h2⟩ := rows_of fun r hm => eight (by rw [hty r hm, ht]) (hr r hm)
    exact ⟨xs, h1, by rw [h1, List.length_map] at hlen; exact hlen, h2⟩
end Go.Proofs.YtgckmifmjiklmaaGreat
