/-
  As D4.
-/
import Derived.Test.YtgckmifmjiklmaaD4
set_option linter.unusedVariables false
set_option linter.unusedSimpArgs false
