/-
  The tree of ways of a function.
-/
import Derived.Test.YteilkigdlkeiaaaSxC
import Derived.Test.YteilkigdlkeiaaaProg
namespace Go.Proofs.Yteilkigdlkeiaaa
open Go Go.Sx
def t10_1 : T :=
  (.br (.cmp .eq (.v 32) (.int 0)) (.br (.cmp .eq (.v 38) (.int 140)) (.ret (.b (.cmp .eq (.v 37) (.ii .add (.ii .add (.len (.v 5)) (.int 1)) (.int 1))))) (.ret (.b (.bool false)))) (.ret (.b (.bool false))))
def t10_2 : T :=
  (.need (.cmp .le (.ii .mul (.ii .add (.ii .add (.ii .add (.len (.v 5)) (.int 1)) (.int 1)) (.int 1)) (.int 24)) (.int 140737488355328)) (.call 17 (.rcons (.typed (.cons .int (.cons .int (.cons .int .nil))) (.snoc (.snoc (.snoc (.v 5) (.rcons (.int 5) (.rcons (.ii .min (.ii .add (.v 9) (.v 12)) (.int 10000000)) (.rcons (.int (-1)) .rnil)))) (.rcons (.int 7) (.rcons (.ii .add (.ii .min (.ii .add (.v 9) (.v 12)) (.int 10000000)) (.int 2592000)) (.rcons (.int (-1)) .rnil)))) (.rcons (.int 6) (.rcons (.ii .add (.ii .min (.ii .add (.v 9) (.v 12)) (.int 10000000)) (.int 2592000)) (.rcons (.int (-1)) .rnil))))) .rnil) (.tup (.cons (.agg (.cons .i (.cons .i (.cons .i (.cons .i .nil))))) (.cons .i (.cons .i .nil)))) t10_1))
def t10_3 : T :=
  (.call 17 (.rcons (.typed (.cons .int (.cons .int (.cons .int .nil))) (.snoc (.snoc (.v 5) (.rcons (.int 5) (.rcons (.ii .min (.ii .add (.v 9) (.v 12)) (.int 10000000)) (.rcons (.int (-1)) .rnil)))) (.rcons (.int 7) (.rcons (.ii .add (.ii .min (.ii .add (.v 9) (.v 12)) (.int 10000000)) (.int 2592000)) (.rcons (.int (-1)) .rnil))))) .rnil) (.tup (.cons (.agg (.cons .i (.cons .i (.cons .i (.cons .i .nil))))) (.cons .i (.cons .i .nil)))) t10_2)
def t10_4 : T :=
  (.need (.and (.cmp .le (.int (-9223372036854775808)) (.ii .add (.ii .min (.ii .add (.v 9) (.v 12)) (.int 10000000)) (.int 2592000))) (.cmp .le (.ii .add (.ii .min (.ii .add (.v 9) (.v 12)) (.int 10000000)) (.int 2592000)) (.int 9223372036854775807))) (.br (.cmp .lt (.int 10000000) (.ii .add (.ii .min (.ii .add (.v 9) (.v 12)) (.int 10000000)) (.int 2592000))) (.ret (.b (.bool true))) t10_3))
def t10_5 : T :=
  (.br (.not (.cmp .eq (.v 25) (.v 7))) (.ret (.b (.bool false))) t10_4)
def t10_6 : T :=
  (.br (.not (.cmp .eq (.v 24) (.int 1))) (.ret (.b (.bool false))) t10_5)
def t10_7 : T :=
  (.br (.cmp .lt (.v 22) (.ii .min (.ii .add (.v 9) (.v 12)) (.int 10000000))) (.ret (.b (.bool false))) t10_4)
def t10_8 : T :=
  (.br (.cmp .eq (.v 26) (.int 0)) t10_6 t10_7)
def t10_9 : T :=
  (.call 30 (.rcons (.typed (.cons .int (.cons .int (.cons .int .nil))) (.snoc (.snoc (.v 5) (.rcons (.int 5) (.rcons (.ii .min (.ii .add (.v 9) (.v 12)) (.int 10000000)) (.rcons (.int (-1)) .rnil)))) (.rcons (.int 6) (.rcons (.ii .min (.ii .add (.ii .min (.ii .add (.v 9) (.v 12)) (.int 10000000)) (.v 13)) (.int 10000000)) (.rcons (.int (-1)) .rnil))))) (.rcons (.rcons (.v 21) (.rcons (.v 22) .rnil)) (.rcons (.ii .min (.ii .add (.ii .min (.ii .add (.v 9) (.v 12)) (.int 10000000)) (.v 13)) (.int 10000000)) .rnil))) (.tup (.cons .i (.cons .i (.cons .i .nil)))) t10_8)
def t10_10 : T :=
  (.br (.cmp .eq (.v 29) (.int 0)) (.br (.cmp .eq (.v 35) (.int 140)) (.ret (.b (.cmp .eq (.v 34) (.ii .add (.ii .add (.len (.v 5)) (.int 1)) (.int 1))))) (.ret (.b (.bool false)))) (.ret (.b (.bool false))))
def t10_11 : T :=
  (.need (.cmp .le (.ii .mul (.ii .add (.ii .add (.ii .add (.len (.v 5)) (.int 1)) (.int 1)) (.int 1)) (.int 24)) (.int 140737488355328)) (.call 17 (.rcons (.typed (.cons .int (.cons .int (.cons .int .nil))) (.snoc (.snoc (.snoc (.v 5) (.rcons (.int 5) (.rcons (.ii .min (.ii .add (.v 9) (.v 12)) (.int 10000000)) (.rcons (.int (-1)) .rnil)))) (.rcons (.int 7) (.rcons (.ii .add (.ii .min (.ii .add (.v 9) (.v 12)) (.int 10000000)) (.int 2592000)) (.rcons (.int (-1)) .rnil)))) (.rcons (.int 6) (.rcons (.ii .add (.ii .min (.ii .add (.v 9) (.v 12)) (.int 10000000)) (.int 2592000)) (.rcons (.int (-1)) .rnil))))) .rnil) (.tup (.cons (.agg (.cons .i (.cons .i (.cons .i (.cons .i .nil))))) (.cons .i (.cons .i .nil)))) t10_10))
def t10_12 : T :=
  (.call 17 (.rcons (.typed (.cons .int (.cons .int (.cons .int .nil))) (.snoc (.snoc (.v 5) (.rcons (.int 5) (.rcons (.ii .min (.ii .add (.v 9) (.v 12)) (.int 10000000)) (.rcons (.int (-1)) .rnil)))) (.rcons (.int 7) (.rcons (.ii .add (.ii .min (.ii .add (.v 9) (.v 12)) (.int 10000000)) (.int 2592000)) (.rcons (.int (-1)) .rnil))))) .rnil) (.tup (.cons (.agg (.cons .i (.cons .i (.cons .i (.cons .i .nil))))) (.cons .i (.cons .i .nil)))) t10_11)
def t10_13 : T :=
  (.need (.and (.cmp .le (.int (-9223372036854775808)) (.ii .add (.ii .min (.ii .add (.v 9) (.v 12)) (.int 10000000)) (.int 2592000))) (.cmp .le (.ii .add (.ii .min (.ii .add (.v 9) (.v 12)) (.int 10000000)) (.int 2592000)) (.int 9223372036854775807))) (.br (.cmp .lt (.int 10000000) (.ii .add (.ii .min (.ii .add (.v 9) (.v 12)) (.int 10000000)) (.int 2592000))) (.ret (.b (.bool true))) t10_12))
def t10_14 : T :=
  (.br (.cmp .le (.v 22) (.ii .min (.ii .add (.ii .min (.ii .add (.v 9) (.v 12)) (.int 10000000)) (.v 13)) (.int 10000000))) t10_9 t10_13)
def t10_15 : T :=
  (.br (.cmp .eq (.v 21) (.v 8)) t10_14 t10_13)
def t10_16 : T :=
  (.br (.cmp .eq (.v 23) (.int 0)) t10_15 t10_13)
def t10_17 : T :=
  (.call 27 (.rcons (.typed (.cons .int (.cons .int (.cons .int .nil))) (.v 5)) (.rcons (.v 20) .rnil)) (.tup (.cons (.agg (.cons .i (.cons .i .nil))) (.cons .i .nil))) t10_16)
def t10_18 : T :=
  (.call 24 (.rcons (.typed (.cons .int (.cons .int (.cons .int .nil))) (.v 5)) (.rcons (.v 3) .rnil)) .i t10_17)
def t10_19 : T :=
  (.br (.not (.and (.cmp .eq (.v 14) (.int 1)) (.and (.cmp .eq (.v 15) (.v 7)) (.and (.cmp .eq (.v 16) (.v 8)) (.cmp .eq (.v 17) (.ii .min (.ii .add (.ii .min (.ii .add (.v 9) (.v 12)) (.int 10000000)) (.v 13)) (.int 10000000))))))) (.ret (.b (.bool false))) t10_18)
def t10_20 : T :=
  (.br (.not (.cmp .eq (.v 19) (.int 0))) (.ret (.b (.bool false))) t10_19)
def t10_21 : T :=
  (.br (.not (.cmp .eq (.v 6) (.int 2))) (.br (.cmp .eq (.v 19) (.int 140)) (.ret (.b (.cmp .eq (.v 18) (.len (.v 5))))) (.ret (.b (.bool false)))) t10_20)
def t10_22 : T :=
  (.br (.not (.cmp .eq (.v 6) (.int 1))) t10_21 t10_20)
def t10_23 : T :=
  (.need (.and (.cmp .le (.int (-9223372036854775808)) (.ii .add (.ii .min (.ii .add (.v 9) (.v 12)) (.int 10000000)) (.v 13))) (.cmp .le (.ii .add (.ii .min (.ii .add (.v 9) (.v 12)) (.int 10000000)) (.v 13)) (.int 9223372036854775807))) (.need (.cmp .le (.ii .mul (.len (.v 5)) (.int 24)) (.int 140737488355328)) (.need (.cmp .le (.ii .mul (.ii .add (.ii .add (.len (.v 5)) (.int 1)) (.int 1)) (.int 24)) (.int 140737488355328)) (.call 17 (.rcons (.typed (.cons .int (.cons .int (.cons .int .nil))) (.snoc (.snoc (.v 5) (.rcons (.int 5) (.rcons (.ii .min (.ii .add (.v 9) (.v 12)) (.int 10000000)) (.rcons (.int (-1)) .rnil)))) (.rcons (.int 6) (.rcons (.ii .min (.ii .add (.ii .min (.ii .add (.v 9) (.v 12)) (.int 10000000)) (.v 13)) (.int 10000000)) (.rcons (.int (-1)) .rnil))))) .rnil) (.tup (.cons (.agg (.cons .i (.cons .i (.cons .i (.cons .i .nil))))) (.cons .i (.cons .i .nil)))) t10_22))))
def t10_24 : T :=
  (.need (.and (.cmp .le (.int (-9223372036854775808)) (.ii .add (.v 9) (.v 12))) (.cmp .le (.ii .add (.v 9) (.v 12)) (.int 9223372036854775807))) (.call 29 (.rcons (.v 2) (.rcons (.int 3000000) .rnil)) .i t10_23))
def t10_25 : T :=
  (.call 29 (.rcons (.v 1) (.rcons (.int 100) .rnil)) .i t10_24)
def t10_26 : T :=
  (.br (.not (.cmp .eq (.v 11) (.int 0))) (.ret (.b (.bool false))) t10_25)
def t10_27 : T :=
  (.call 17 (.rcons (.typed (.cons .int (.cons .int (.cons .int .nil))) (.v 5)) .rnil) (.tup (.cons (.agg (.cons .i (.cons .i (.cons .i (.cons .i .nil))))) (.cons .i (.cons .i .nil)))) t10_26)
def t10_28 : T :=
  (.call 14 (.rcons (.typed (.cons .int (.cons .int (.cons .int .nil))) (.v 0)) .rnil) (.row 54 (.cons .int (.cons .int (.cons .int .nil)))) t10_27)
def t10_29 : T :=
  (.br (.not (.v 4)) (.ret (.b (.bool false))) t10_28)
def t10 : T :=
  (.call 13 .rnil .b t10_29)
set_option maxRecDepth 100000 in
theorem t10_eq : symFn Try.prog ⟨[], [13, 14, 17, 27, 25, 30, 29, 24], [], []⟩ 10 = t10 := by kernel_rfl
end Go.Proofs.Yteilkigdlkeiaaa
