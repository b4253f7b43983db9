/-
  As D5.
-/
import Derived.Test.YtgckmifmjiklmaaD5
set_option linter.unusedVariables false
set_option linter.unusedSimpArgs false
