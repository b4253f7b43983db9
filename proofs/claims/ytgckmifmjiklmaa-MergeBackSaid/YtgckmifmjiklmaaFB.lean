/-
  Loops of plain functions; rows.
-/
import Derived.Test.YtgckmifmjiklmaaSxE
set_option linter.unusedVariables false
set_option linter.unusedSimpArgs false
namespace Go.Sx
open Go
theorem iterF_succ {σ α : Type} (step : (σ → Option α) → σ → Option α) (n : Nat) (s : σ) : iterF step (n + 1) s = step (iterF step n) s := rfl
/-- a loop whose rounds keep something, and whose measure goes down, gives r -/
theorem iterF_ind {σ α : Type} {step : (σ → Option α) → σ → Option α} (Inv : σ → Prop) (mu : σ → Nat) (r : α)
    (h : ∀ s go, Inv s → (∀ s', Inv s' → mu s' < mu s → go s' = some r) → step go s = some r) : ∀ (n : Nat) (s : σ), Inv s → mu s < n → iterF step n s = some r := by
  intro n
  induction n with
  | zero => intro s _ hm; omega
  | succ n ih =>
    intro s hi hm
    exact h s _ hi fun s' hi' hm' => ih s' hi' (by omega)
/-- the same, where the result goes by the state -/
theorem iterF_spec {σ α : Type} {step : (σ → Option α) → σ → Option α} (Inv : σ → Prop) (mu : σ → Nat) (r : σ → α)
    (h : ∀ s go, Inv s → (∀ s', Inv s' → mu s' < mu s → go s' = some (r s')) → step go s = some (r s)) : ∀ (n : Nat) (s : σ), Inv s → mu s < n → iterF step n s = some (r s) := by
  intro n
  induction n with
  | zero => intro s _ hm; omega
  | succ n ih =>
    intro s hi hm
    exact h s _ hi fun s' hi' hm' => ih s' hi' (by omega)
/-- the same, where only something is known of the result -/
theorem iterF_ex {σ α : Type} {step : (σ → Option α) → σ → Option α} (Inv : σ → Prop) (mu : σ → Nat) (Post : α → Prop)
    (h : ∀ s go, Inv s → (∀ s', Inv s' → mu s' < mu s → ∃ r, go s' = some r ∧ Post r) → ∃ r, step go s = some r ∧ Post r) : ∀ (n : Nat) (s : σ), Inv s → mu s < n → ∃ r, iterF step n s = some r ∧ Post r := by
  intro n
  induction n with
  | zero => intro s _ hm; omega
  | succ n ih =>
    intro s hi hm
    exact h s _ hi fun s' hi' hm' => ih s' hi' (by omega)
theorem cA_map {α : Type} {f : α → List AV} {l : List α} {i : Int} {k : Nat} {x : α} (h : l[i.toNat]? = some x) : cA (l.map f) i k = (f x).getD k (.int 0) := by
  simp [cA, List.getD, h]
theorem take_snoc {α : Type} {l : List α} {i : Nat} {x : α} (h : l[i]? = some x) : l.take (i + 1) = l.take i ++ [x] := by
  rw [List.take_add_one, h]; rfl
theorem get_lt {α : Type} {l : List α} {i : Nat} (h : i < l.length) : ∃ x, l[i]? = some x := ⟨_, List.getElem?_eq_getElem h⟩
end Go.Sx
