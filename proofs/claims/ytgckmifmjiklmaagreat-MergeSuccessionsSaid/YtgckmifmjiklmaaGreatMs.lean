/-
  The law's examples: they hold (by running the plain functions in the kernel).
-/
import Derived.Test.YtgckmifmjiklmaaGreatD13
set_option linter.unusedVariables false
set_option linter.unusedSimpArgs false
set_option maxRecDepth 100000
namespace Go.Proofs.YtgckmifmjiklmaaGreat
open Go Go.Sx
theorem law42_sane_k (m : Nat) : law42_sane (m + 300) = some true := by kernel_rfl
theorem law42_sane_v (n : Nat) (hn : 300 < n) : law42_sane n = some true := by
  obtain ⟨m, rfl⟩ : ∃ m, n = m + 300 := ⟨n - 300, by omega⟩
  exact law42_sane_k m
end Go.Proofs.YtgckmifmjiklmaaGreat
