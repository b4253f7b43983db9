/-
  The program is as the executor asks it to be.
-/
import Derived.Test.YtgckmifmjiklmaaGreatSxE
import Derived.Test.YtgckmifmjiklmaaGreatProg
set_option linter.unusedVariables false
set_option linter.unusedSimpArgs false
namespace Go.Proofs.YtgckmifmjiklmaaGreat
open Go Go.Sx
theorem try_names : Tryz.prog.funcs.toList.all (fun fn => fn.name != "runtime.NumGoroutine") = true := by kernel_rfl
theorem try_mix : Tryz.prog.follows .mixedOrders = true := by kernel_rfl
theorem pfit : PFit Tryz.prog := ⟨try_mix, fun f fn h => by
  have h1 : fn ∈ Tryz.prog.funcs.toList := by rw [Array.mem_toList_iff]; exact Array.mem_of_getElem? h
  have h2 := List.all_eq_true.1 try_names fn h1
  simpa using h2⟩
end Go.Proofs.YtgckmifmjiklmaaGreat
