/-
  Plain functions for functions of the program, each with its contract (printed by decomp.py).
-/
import Derived.Test.YtgckmifmjiklmaaSxP
import Derived.Test.YtgckmifmjiklmaaSx25
import Derived.Test.YtgckmifmjiklmaaD6
set_option linter.unusedSimpArgs false
set_option linter.unusedVariables false
set_option maxRecDepth 100000
namespace Go.Proofs.Ytgckmifmjiklmaa
open Go Go.Sx
noncomputable section
def consDC : List Nat := [5, 6, 7, 8, 9, 10, 11, 12, 14, 15, 16, 17, 18, 19, 20, 22, 23, 24, 25, 26, 27, 29, 30, 31, 32, 33, 41, 44, 47, 48, 49, 50, 57, 58, 66, 67, 73, 74, 75, 77, 82, 87, 88, 91, 94, 95, 1000009, 1000030, 1000082, 1000087, 1000095]
/-! slices.Clone[[]int,int] -/
abbrev slices_Clone___int_int_a := Lv
def slices_Clone___int_int_1 (n : Nat) (v0 : Lv) : Option slices_Clone___int_int_a :=
  bif (decide (((v0.length : Int) * 8) ≤ 140737488355328)) then some v0 else none
def slices_Clone___int_int (n : Nat) (v0 : Lv) : Option slices_Clone___int_int_a := slices_Clone___int_int_1 n v0
def slices_Clone___int_int_t : FnT := ⟨[(false, [(.sl (.cons .int .nil))])], (.row 3 (.cons .int .nil)), fun n (s : Lv) => slices_Clone___int_int n s⟩
theorem slices_Clone___int_int_ok : slices_Clone___int_int_t.ok Try.prog 67 := FnT.ok_of (cfg := ⟨[], consDC, [], []⟩) (tab := merge_Valid_T) (mt := mt0) pfit merge_Valid_T_ok mt0_ok (fun s fn hf => by rw [Try.func67] at hf; cases hf; kernel_rfl) (fun n s => by kernel_rfl)
def slices_Clone___int_int_T : Tab := (67, slices_Clone___int_int_t) :: merge_Valid_T
theorem slices_Clone___int_int_T_ok : slices_Clone___int_int_T.ok Try.prog := Tab.ok_cons slices_Clone___int_int_ok merge_Valid_T_ok
/-! slices.Clone[[]dialtone/api.Block,dialtone/api.Block] -/
abbrev slices_Clone___api_Block_api_Block_a := Lv
def slices_Clone___api_Block_api_Block_1 (n : Nat) (v0 : Lv) : Option slices_Clone___api_Block_api_Block_a :=
  bif (decide (((v0.length : Int) * 24) ≤ 140737488355328)) then some v0 else none
def slices_Clone___api_Block_api_Block (n : Nat) (v0 : Lv) : Option slices_Clone___api_Block_api_Block_a := slices_Clone___api_Block_api_Block_1 n v0
def slices_Clone___api_Block_api_Block_t : FnT := ⟨[(false, [(.sl (.cons .int (.cons .int (.cons .int .nil))))])], (.row 66 (.cons .int (.cons .int (.cons .int .nil)))), fun n (s : Lv) => slices_Clone___api_Block_api_Block n s⟩
theorem slices_Clone___api_Block_api_Block_ok : slices_Clone___api_Block_api_Block_t.ok Try.prog 66 := FnT.ok_of (cfg := ⟨[], consDC, [], []⟩) (tab := slices_Clone___int_int_T) (mt := mt0) pfit slices_Clone___int_int_T_ok mt0_ok (fun s fn hf => by rw [Try.func66] at hf; cases hf; kernel_rfl) (fun n s => by kernel_rfl)
def slices_Clone___api_Block_api_Block_T : Tab := (66, slices_Clone___api_Block_api_Block_t) :: slices_Clone___int_int_T
theorem slices_Clone___api_Block_api_Block_T_ok : slices_Clone___api_Block_api_Block_T.ok Try.prog := Tab.ok_cons slices_Clone___api_Block_api_Block_ok slices_Clone___int_int_T_ok
/-! slices.Clone[[]dialtone/api.Debt,dialtone/api.Debt] -/
abbrev slices_Clone___api_Debt_api_Debt_a := Lv
def slices_Clone___api_Debt_api_Debt_1 (n : Nat) (v0 : Lv) : Option slices_Clone___api_Debt_api_Debt_a :=
  bif (decide (((v0.length : Int) * 24) ≤ 140737488355328)) then some v0 else none
def slices_Clone___api_Debt_api_Debt (n : Nat) (v0 : Lv) : Option slices_Clone___api_Debt_api_Debt_a := slices_Clone___api_Debt_api_Debt_1 n v0
def slices_Clone___api_Debt_api_Debt_t : FnT := ⟨[(false, [(.sl (.cons .int (.cons .int (.cons .int .nil))))])], (.row 64 (.cons .int (.cons .int (.cons .int .nil)))), fun n (s : Lv) => slices_Clone___api_Debt_api_Debt n s⟩
theorem slices_Clone___api_Debt_api_Debt_ok : slices_Clone___api_Debt_api_Debt_t.ok Try.prog 47 := FnT.ok_of (cfg := ⟨[], consDC, [], []⟩) (tab := slices_Clone___api_Block_api_Block_T) (mt := mt0) pfit slices_Clone___api_Block_api_Block_T_ok mt0_ok (fun s fn hf => by rw [Try.func47] at hf; cases hf; kernel_rfl) (fun n s => by kernel_rfl)
def slices_Clone___api_Debt_api_Debt_T : Tab := (47, slices_Clone___api_Debt_api_Debt_t) :: slices_Clone___api_Block_api_Block_T
theorem slices_Clone___api_Debt_api_Debt_T_ok : slices_Clone___api_Debt_api_Debt_T.ok Try.prog := Tab.ok_cons slices_Clone___api_Debt_api_Debt_ok slices_Clone___api_Block_api_Block_T_ok
end
end Go.Proofs.Ytgckmifmjiklmaa
