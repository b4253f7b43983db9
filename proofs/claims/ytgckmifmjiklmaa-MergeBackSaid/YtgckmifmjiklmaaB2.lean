/-
  As D2.
-/
import Derived.Test.YtgckmifmjiklmaaD2
set_option linter.unusedVariables false
set_option linter.unusedSimpArgs false
