/-
  Plain functions for functions of the program, each with its contract (printed by decomp.py).
-/
import Derived.Test.YtgckmifmjiklmaaGreatSxP
import Derived.Test.YtgckmifmjiklmaaGreatSx25
import Derived.Test.YtgckmifmjiklmaaGreatD7
set_option linter.unusedSimpArgs false
set_option linter.unusedVariables false
set_option maxRecDepth 100000
namespace Go.Proofs.YtgckmifmjiklmaaGreat
open Go Go.Sx
noncomputable section
def consD8 : List Nat := [11, 12, 13, 14, 15, 16, 17, 18, 19, 20, 21, 22, 23, 24, 25, 26, 27, 28, 29, 30, 31, 32, 33, 34, 35, 36, 37, 38, 40, 46, 47, 51, 52, 54, 55, 56, 57, 58, 59, 61, 62, 63, 64, 66, 67, 69, 80, 83, 87, 90, 91, 92, 95, 96, 115, 116, 121, 122, 127, 128, 164, 165, 166, 197, 198, 201, 204, 205, 216, 229, 1000012, 1000056, 1000197, 1000216, 1000229]
/-! dialtone/merge.Run -/
abbrev merge_Run_a := Int × Int × Lv × Lv × Lv × Int × Int
abbrev merge_Run_s0 := Int × Int × Int × Lv × Lv × Lv
abbrev merge_Run_s1 := Int
def merge_Run_3 (n : Nat) (go0 : merge_Run_s0 → Option merge_Run_a) (v5 : Lv) (v11 v12 v13 : Int) (v14 v15 v16 : Lv) : Option merge_Run_a :=
  (bif (decide (v11 < (v5.length : Int))) then bif (decide (0 ≤ v11)) then (merge_step n v12 v13 v14 v15 v16 (cI v5 v11 0) (cI v5 v11 1) (cI v5 v11 2) (cI v5 v11 3) (cI v5 v11 4) (cI v5 v11 5) (cI v5 v11 6) (cI v5 v11 7)).bind fun y17 =>
  (bif (!(decide (y17.2.2.2.2.2 = 0))) then some (0, 0, ([] : Lv), ([] : Lv), ([] : Lv), v11, y17.2.2.2.2.2)
  else bif ((decide ((-9223372036854775808) ≤ (v11 + 1))) && (decide ((v11 + 1) ≤ 9223372036854775807))) then go0 ((v11 + 1), y17.1, y17.2.1, y17.2.2.1, y17.2.2.2.1, y17.2.2.2.2.1) else none) else none
  else some (v12, v13, v14, v15, v16, (v5.length : Int), 0))
def merge_Run_2 (n : Nat) (go0 : merge_Run_s1 → Option merge_Run_a) (v0 v1 : Int) (v2 v3 v4 v5 : Lv) (v7 : Int) : Option merge_Run_a :=
  (bif (decide (0 < v7)) then bif (decide (0 ≤ v7)) then bif (decide (v7 < (v5.length : Int))) then bif ((decide ((-9223372036854775808) ≤ (v7 - 1))) && (decide ((v7 - 1) ≤ 9223372036854775807))) then bif (decide (0 ≤ (v7 - 1))) then bif (decide ((v7 - 1) < (v5.length : Int))) then (bif (decide ((cI v5 v7 1) < (cI v5 (v7 - 1) 1))) then some (0, 0, ([] : Lv), ([] : Lv), ([] : Lv), 0, 420)
  else (bif (decide ((cI v5 (v7 - 1) 1) < (cI v5 v7 1))) then go0 (v7 - 1)
  else go0 (v7 - 1))) else none else none else none else none else none
  else (slices_Clone___api_Block_api_Block n v2).bind fun y8 =>
  (slices_Clone___int_int n v3).bind fun y9 =>
  (slices_Clone___int_int n v4).bind fun y10 =>
  (iterF (fun go0 s => merge_Run_3 n go0 v5 s.1 s.2.1 s.2.2.1 s.2.2.2.1 s.2.2.2.2.1 s.2.2.2.2.2) n ((0, v0, v1, y8, y9, y10) : merge_Run_s0)))
def merge_Run_1 (n : Nat) (v0 v1 : Int) (v2 v3 v4 v5 : Lv) : Option merge_Run_a :=
  (merge_Valid n v0 v1 v2 v3 v4).bind fun y6 =>
  (bif (!y6) then some (0, 0, ([] : Lv), ([] : Lv), ([] : Lv), 0, 420)
  else (bif (decide (20 < (v5.length : Int))) then some (0, 0, ([] : Lv), ([] : Lv), ([] : Lv), 0, 420)
  else bif ((decide ((-9223372036854775808) ≤ ((v5.length : Int) - 1))) && (decide (((v5.length : Int) - 1) ≤ 9223372036854775807))) then (iterF (fun go0 s => merge_Run_2 n go0 v0 v1 v2 v3 v4 v5 s) n (((v5.length : Int) - 1) : merge_Run_s1)) else none))
def merge_Run (n : Nat) (v0 v1 : Int) (v2 v3 v4 v5 : Lv) : Option merge_Run_a := merge_Run_1 n v0 v1 v2 v3 v4 v5
def merge_Run_t : FnT := ⟨[(true, [.int, .int, (.sl (.cons .int (.cons .int (.cons .int .nil)))), (.sl (.cons .int .nil)), (.sl (.cons .int .nil))]), (false, [(.sl (.cons .int (.cons .int (.cons .int (.cons .int (.cons .int (.cons .int (.cons .int (.cons .int .nil)))))))))])], (.tup (.cons (.agg (.cons .i (.cons .i (.cons (.row 116 (.cons .int (.cons .int (.cons .int .nil)))) (.cons (.row 3 (.cons .int .nil)) (.cons (.row 3 (.cons .int .nil)) .nil)))))) (.cons .i (.cons .i .nil)))), fun n (s : Int × Int × Lv × Lv × Lv × Lv) => merge_Run n s.1 s.2.1 s.2.2.1 s.2.2.2.1 s.2.2.2.2.1 s.2.2.2.2.2⟩
theorem merge_Run_ok : merge_Run_t.ok Tryz.prog 21 := FnT.ok_of (cfg := ⟨[((21, 5, 0), .inv [(.tmp 29 .int), (.cell 0 0 .int), (.cell 0 1 .int), (.cellrow 0 2 116 (.cons .int (.cons .int (.cons .int .nil)))), (.cellrow 0 3 3 (.cons .int .nil)), (.cellrow 0 4 3 (.cons .int .nil))]), ((77, 2, 2), .inv [(.tmp 5 .int)])], consD8, [], []⟩) (tab := merge_Step_T) (mt := mt0) pfit merge_Step_T_ok mt0_ok (fun s fn hf => by rw [Tryz.func21] at hf; cases hf; kernel_rfl) (fun n s => by kernel_rfl)
def merge_Run_T : Tab := (21, merge_Run_t) :: merge_Step_T
theorem merge_Run_T_ok : merge_Run_T.ok Tryz.prog := Tab.ok_cons merge_Run_ok merge_Step_T_ok
end
end Go.Proofs.YtgckmifmjiklmaaGreat
