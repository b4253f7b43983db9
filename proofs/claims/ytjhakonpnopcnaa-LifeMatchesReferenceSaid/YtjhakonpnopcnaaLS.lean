/-
  The chapter's examples come out right: the contract of sane, out of its walk.
-/
import Derived.Test.YtjhakonpnopcnaaD2
import Derived.Test.YtjhakonpnopcnaaR7
set_option linter.unusedVariables false
set_option linter.unusedSimpArgs false
set_option maxRecDepth 100000
namespace Go.Proofs.Ytjhakonpnopcnaa
open Go Go.Sx
noncomputable section
theorem con_sane : Con Try.prog 4 [] (.b true) := fun S vs w _ hvs => by
  have h0 : vs = #[] := Array.eq_empty_of_size_eq_zero hvs.1
  rw [h0]
  exact (sane_any w).mono fun _ _ ⟨e, hb⟩ => ⟨.bool true, fun _ => False, [], e, ⟨rfl, rfl⟩, List.nodup_nil, fun k hk => (by cases hk), fun k hk => hk.elim, hb⟩
def law14_sane (_ : Nat) : Option Bool := some true
def law14_sane_t : FnT := ⟨[], .b, fun n (_ : Unit) => law14_sane n⟩
theorem law14_sane_ok : law14_sane_t.ok Try.prog 4 := fun n s z h => by
  have h : some true = some z := h
  cases h
  exact con_sane
def law14_sane_T : Tab := (4, law14_sane_t) :: law14_few_T
theorem law14_sane_T_ok : law14_sane_T.ok Try.prog := Tab.ok_cons law14_sane_ok law14_few_T_ok
end
end Go.Proofs.Ytjhakonpnopcnaa
