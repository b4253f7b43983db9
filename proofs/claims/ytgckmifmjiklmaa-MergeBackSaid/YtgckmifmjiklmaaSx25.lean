/-
  The program is as the executor asks it to be.
-/
import Derived.Test.YtgckmifmjiklmaaSxE
import Derived.Test.YtgckmifmjiklmaaProg
set_option linter.unusedVariables false
set_option linter.unusedSimpArgs false
namespace Go.Proofs.Ytgckmifmjiklmaa
open Go Go.Sx
theorem try_names : Try.prog.funcs.toList.all (fun fn => fn.name != "runtime.NumGoroutine") = true := by kernel_rfl
theorem try_mix : Try.prog.follows .mixedOrders = true := by kernel_rfl
theorem pfit : PFit Try.prog := ⟨try_mix, fun f fn h => by
  have h1 : fn ∈ Try.prog.funcs.toList := by rw [Array.mem_toList_iff]; exact Array.mem_of_getElem? h
  have h2 := List.all_eq_true.1 try_names fn h1
  simpa using h2⟩
end Go.Proofs.Ytgckmifmjiklmaa
