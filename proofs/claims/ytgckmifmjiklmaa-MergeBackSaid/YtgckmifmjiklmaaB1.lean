/-
  As D1.
-/
import Derived.Test.YtgckmifmjiklmaaD1
set_option linter.unusedVariables false
set_option linter.unusedSimpArgs false
