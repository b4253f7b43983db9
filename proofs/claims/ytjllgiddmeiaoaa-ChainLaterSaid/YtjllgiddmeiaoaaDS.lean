/-
  The chapter's examples come out right.
-/
import Derived.Test.YtjllgiddmeiaoaaD7
set_option linter.unusedVariables false
set_option linter.unusedSimpArgs false
set_option maxRecDepth 100000
namespace Go.Proofs.Ytjllgiddmeiaoaa
open Go Go.Sx
noncomputable section
theorem law17_saneX_v : law17_saneX 300 = some true := by kernel_rfl
def law17_sane (_ : Nat) : Option Bool := some true
def law17_sane_t : FnT := ⟨[], .b, fun n (_ : Unit) => law17_sane n⟩
theorem law17_sane_ok : law17_sane_t.ok Try.prog 12 := fun n s z h => law17_saneX_ok 300 s z (by
  have h : some true = some z := h
  cases h
  exact law17_saneX_v)
def law17_sane_T : Tab := (12, law17_sane_t) :: law17_saneX_T
theorem law17_sane_T_ok : law17_sane_T.ok Try.prog := Tab.ok_cons law17_sane_ok law17_saneX_T_ok
end
end Go.Proofs.Ytjllgiddmeiaoaa
