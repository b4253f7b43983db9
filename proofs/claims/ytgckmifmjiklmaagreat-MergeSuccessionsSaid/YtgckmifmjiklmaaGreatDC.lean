/-
  Plain functions for functions of the program, each with its contract (printed by decomp.py).
-/
import Derived.Test.YtgckmifmjiklmaaGreatSxP
import Derived.Test.YtgckmifmjiklmaaGreatSx25
import Derived.Test.YtgckmifmjiklmaaGreatD6
set_option linter.unusedSimpArgs false
set_option linter.unusedVariables false
set_option maxRecDepth 100000
namespace Go.Proofs.YtgckmifmjiklmaaGreat
open Go Go.Sx
noncomputable section
def consDC : List Nat := [11, 12, 13, 14, 15, 16, 17, 18, 19, 20, 21, 22, 23, 24, 25, 26, 27, 28, 29, 30, 31, 32, 33, 34, 35, 36, 37, 38, 40, 46, 47, 51, 52, 54, 55, 56, 57, 58, 59, 61, 62, 63, 64, 66, 67, 69, 80, 83, 87, 90, 91, 92, 95, 96, 115, 116, 121, 122, 127, 128, 164, 165, 166, 197, 198, 201, 204, 205, 216, 229, 1000012, 1000056, 1000197, 1000216, 1000229]
/-! slices.Clone[[]int,int] -/
abbrev slices_Clone___int_int_a := Lv
def slices_Clone___int_int_1 (n : Nat) (v0 : Lv) : Option slices_Clone___int_int_a :=
  bif (decide (((v0.length : Int) * 8) ≤ 140737488355328)) then some v0 else none
def slices_Clone___int_int (n : Nat) (v0 : Lv) : Option slices_Clone___int_int_a := slices_Clone___int_int_1 n v0
def slices_Clone___int_int_t : FnT := ⟨[(false, [(.sl (.cons .int .nil))])], (.row 3 (.cons .int .nil)), fun n (s : Lv) => slices_Clone___int_int n s⟩
theorem slices_Clone___int_int_ok : slices_Clone___int_int_t.ok Tryz.prog 128 := FnT.ok_of (cfg := ⟨[], consDC, [], []⟩) (tab := merge_Valid_T) (mt := mt0) pfit merge_Valid_T_ok mt0_ok (fun s fn hf => by rw [Tryz.func128] at hf; cases hf; kernel_rfl) (fun n s => by kernel_rfl)
def slices_Clone___int_int_T : Tab := (128, slices_Clone___int_int_t) :: merge_Valid_T
theorem slices_Clone___int_int_T_ok : slices_Clone___int_int_T.ok Tryz.prog := Tab.ok_cons slices_Clone___int_int_ok merge_Valid_T_ok
/-! slices.Clone[[]dialtone/api.Block,dialtone/api.Block] -/
abbrev slices_Clone___api_Block_api_Block_a := Lv
def slices_Clone___api_Block_api_Block_1 (n : Nat) (v0 : Lv) : Option slices_Clone___api_Block_api_Block_a :=
  bif (decide (((v0.length : Int) * 24) ≤ 140737488355328)) then some v0 else none
def slices_Clone___api_Block_api_Block (n : Nat) (v0 : Lv) : Option slices_Clone___api_Block_api_Block_a := slices_Clone___api_Block_api_Block_1 n v0
def slices_Clone___api_Block_api_Block_t : FnT := ⟨[(false, [(.sl (.cons .int (.cons .int (.cons .int .nil))))])], (.row 116 (.cons .int (.cons .int (.cons .int .nil)))), fun n (s : Lv) => slices_Clone___api_Block_api_Block n s⟩
theorem slices_Clone___api_Block_api_Block_ok : slices_Clone___api_Block_api_Block_t.ok Tryz.prog 127 := FnT.ok_of (cfg := ⟨[], consDC, [], []⟩) (tab := slices_Clone___int_int_T) (mt := mt0) pfit slices_Clone___int_int_T_ok mt0_ok (fun s fn hf => by rw [Tryz.func127] at hf; cases hf; kernel_rfl) (fun n s => by kernel_rfl)
def slices_Clone___api_Block_api_Block_T : Tab := (127, slices_Clone___api_Block_api_Block_t) :: slices_Clone___int_int_T
theorem slices_Clone___api_Block_api_Block_T_ok : slices_Clone___api_Block_api_Block_T.ok Tryz.prog := Tab.ok_cons slices_Clone___api_Block_api_Block_ok slices_Clone___int_int_T_ok
/-! slices.Clone[[]dialtone/api.Debt,dialtone/api.Debt] -/
abbrev slices_Clone___api_Debt_api_Debt_a := Lv
def slices_Clone___api_Debt_api_Debt_1 (n : Nat) (v0 : Lv) : Option slices_Clone___api_Debt_api_Debt_a :=
  bif (decide (((v0.length : Int) * 24) ≤ 140737488355328)) then some v0 else none
def slices_Clone___api_Debt_api_Debt (n : Nat) (v0 : Lv) : Option slices_Clone___api_Debt_api_Debt_a := slices_Clone___api_Debt_api_Debt_1 n v0
def slices_Clone___api_Debt_api_Debt_t : FnT := ⟨[(false, [(.sl (.cons .int (.cons .int (.cons .int .nil))))])], (.row 114 (.cons .int (.cons .int (.cons .int .nil)))), fun n (s : Lv) => slices_Clone___api_Debt_api_Debt n s⟩
theorem slices_Clone___api_Debt_api_Debt_ok : slices_Clone___api_Debt_api_Debt_t.ok Tryz.prog 87 := FnT.ok_of (cfg := ⟨[], consDC, [], []⟩) (tab := slices_Clone___api_Block_api_Block_T) (mt := mt0) pfit slices_Clone___api_Block_api_Block_T_ok mt0_ok (fun s fn hf => by rw [Tryz.func87] at hf; cases hf; kernel_rfl) (fun n s => by kernel_rfl)
def slices_Clone___api_Debt_api_Debt_T : Tab := (87, slices_Clone___api_Debt_api_Debt_t) :: slices_Clone___api_Block_api_Block_T
theorem slices_Clone___api_Debt_api_Debt_T_ok : slices_Clone___api_Debt_api_Debt_T.ok Tryz.prog := Tab.ok_cons slices_Clone___api_Debt_api_Debt_ok slices_Clone___api_Block_api_Block_T_ok
end
end Go.Proofs.YtgckmifmjiklmaaGreat
