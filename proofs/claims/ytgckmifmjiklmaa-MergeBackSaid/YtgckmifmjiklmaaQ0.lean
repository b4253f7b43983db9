/-
  Integers of 64 bits; picks.
-/
import Derived.Test.YtgckmifmjiklmaaFB
set_option linter.unusedVariables false
set_option linter.unusedSimpArgs false
set_option maxRecDepth 100000
namespace Go.Proofs.Ytgckmifmjiklmaa
open Go Go.Sx
def In64 (n : Int) : Prop := -9223372036854775808 ≤ n ∧ n ≤ 9223372036854775807
def pk (c k : Int) : Int := if c < 0 then Int.tmod (0 - (c + 1)) k else Int.tmod c k
theorem tmod_bd {a k : Int} (ha : 0 ≤ a) (hk : 0 < k) : 0 ≤ Int.tmod a k ∧ Int.tmod a k < k := ⟨Int.tmod_nonneg _ ha, Int.tmod_lt_of_pos _ hk⟩
theorem pk_bd (c : Int) {k : Int} (hk : 0 < k) : 0 ≤ pk c k ∧ pk c k < k := by
  unfold pk
  split
  · exact tmod_bd (by omega) hk
  · exact tmod_bd (by omega) hk
abbrev triR (x : Int × Int × Int) : List AV := [.int x.1, .int x.2.1, .int x.2.2]
end Go.Proofs.Ytgckmifmjiklmaa
