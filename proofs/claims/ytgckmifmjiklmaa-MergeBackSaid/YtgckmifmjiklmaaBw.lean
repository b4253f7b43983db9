/-
  Maps of blocks, the program: a walk over the pieces of two maps, in general.
-/
import Derived.Test.YtgckmifmjiklmaaBd
set_option linter.unusedVariables false
set_option linter.unusedSimpArgs false
set_option maxRecDepth 100000
namespace Go.Proofs.Ytgckmifmjiklmaa
open Go Go.Sx Go.Dial.Blk
theorem walk_v {α : Type} (n : Nat) (g : Int → Int → Int) (gbd : ∀ x y, -1 ≤ x → x ≤ 7 → -1 ≤ y → y ≤ 7 → -1 ≤ g x y ∧ g x y ≤ 7) (A B : List B3) (hA : Canon A) (hB : Canon B) (stp : (Int × Lv × Lv × Lv → Option α) → Int × Lv × Lv × Lv → Option α) (R : List B3 → Option α)
    (h1 : ∀ go p (o a b : List B3), p ≤ 99999999 → 0 ≤ p → o.length ≤ 100000000 → a.length ≤ A.length → b.length ≤ B.length → stp go (p, bL o, bL a, bL b) = go (min (at_ a p).2.2 (at_ b p).2.2, bL (Dial.Blk.step o p (min (at_ a p).2.2 (at_ b p).2.2) (g (at_ a p).2.1 (at_ b p).2.1)), bL (at_ a p).1, bL (at_ b p).1))
    (h2 : ∀ go p (o a b : List B3), ¬ p ≤ 99999999 → stp go (p, bL o, bL a, bL b) = R o) (hn : 100000001 < n) (r : α) (hR : ∀ o, IsMap (fun m => g (hold A m) (hold B m)) o → R o = some r) :
    iterF stp n (0, bL [], bL A, bL B) = some r := by
  refine iterF_ind (fun s => ∃ (p : Int) (o a b : List B3), s = (p, bL o, bL a, bL b) ∧ PInv g (hold A) (hold B) p o a b ∧ a.length ≤ A.length ∧ b.length ≤ B.length) (fun s => (100000000 - s.1).toNat) _ ?_ n _ ⟨0, [], A, B, rfl, PInv.begin _ hA hB, Nat.le_refl _, Nat.le_refl _⟩ (by first | omega | (simp only; omega))
  rintro _ go ⟨p, o, a, b, rfl, hI, hal, hbl⟩ ih
  simp only at ih
  have hlo := hI.lo
  have hhi := hI.hi
  have hlen := hI.len
  by_cases hp : p ≤ 99999999
  · obtain ⟨n1, n2⟩ := hI.next gbd (by omega)
    have sa := at_suffix a p
    have sb := at_suffix b p
    have la : (at_ a p).1.length ≤ a.length := by obtain ⟨pre, h⟩ := sa; have := congrArg List.length h; simp at this; omega
    have lb : (at_ b p).1.length ≤ b.length := by obtain ⟨pre, h⟩ := sb; have := congrArg List.length h; simp at this; omega
    rw [h1 go p o a b hp hlo (by omega) hal hbl]
    exact ih _ ⟨_, _, _, _, rfl, n2, by omega, by omega⟩ (by first | omega | (simp only; omega))
  · obtain ⟨d1, d2, d3⟩ := hI.done hp
    rw [h2 go p o a b hp, hR o d1]
end Go.Proofs.Ytgckmifmjiklmaa
