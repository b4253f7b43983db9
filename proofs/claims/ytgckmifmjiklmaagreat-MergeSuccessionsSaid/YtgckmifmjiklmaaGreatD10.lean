/-
  Plain functions for functions of the program, each with its contract (printed by decomp.py).
-/
import Derived.Test.YtgckmifmjiklmaaGreatSxP
import Derived.Test.YtgckmifmjiklmaaGreatSx25
import Derived.Test.YtgckmifmjiklmaaGreatD9
set_option linter.unusedSimpArgs false
set_option linter.unusedVariables false
set_option maxRecDepth 100000
namespace Go.Proofs.YtgckmifmjiklmaaGreat
open Go Go.Sx
noncomputable section
def consD10 : List Nat := [11, 12, 13, 14, 15, 16, 17, 18, 19, 20, 21, 22, 23, 24, 25, 26, 27, 28, 29, 30, 31, 32, 33, 34, 35, 36, 37, 38, 40, 46, 47, 51, 52, 54, 55, 56, 57, 58, 59, 61, 62, 63, 64, 66, 67, 69, 80, 83, 87, 90, 91, 92, 95, 96, 115, 116, 121, 122, 127, 128, 164, 165, 166, 197, 198, 201, 204, 205, 216, 229, 1000012, 1000056, 1000197, 1000216, 1000229]
/-! dialtone/merge.Debts -/
abbrev merge_Debts_a := Lv × Int
abbrev merge_Debts_s0 := Lv × Int
abbrev merge_Debts_s1 := Int × Int × Lv
abbrev merge_Debts_s2 := Int
abbrev merge_Debts_s3 := Int × Lv
def merge_Debts_8 (n : Nat) (go0 : merge_Debts_s0 → Option merge_Debts_a) (go1 : merge_Debts_s1 → Option merge_Debts_a) (v17 v21 v22 : Int) (v23 : Lv) : Option merge_Debts_a :=
  (bif (decide (v22 < (v23.length : Int))) then bif (decide (0 ≤ v22)) then (bif (!(decide ((cI v23 v22 0) = (cI v23 v22 1)))) then bif (decide (0 ≤ v21)) then bif (decide (v21 < (v23.length : Int))) then bif ((decide ((-9223372036854775808) ≤ (v21 + 1))) && (decide ((v21 + 1) ≤ 9223372036854775807))) then bif ((decide ((-9223372036854775808) ≤ (v22 + 1))) && (decide ((v22 + 1) ≤ 9223372036854775807))) then go1 ((v21 + 1), (v22 + 1), (List.modify (List.modify (List.modify v23 (v21).toNat (fun r => r.set 0 (AV.int (cI v23 v22 0)))) (v21).toNat (fun r => r.set 1 (AV.int (cI v23 v22 1)))) (v21).toNat (fun r => r.set 2 (AV.int (cI v23 v22 2))))) else none else none else none else none
  else bif ((decide ((-9223372036854775808) ≤ (v22 + 1))) && (decide ((v22 + 1) ≤ 9223372036854775807))) then go1 (v21, (v22 + 1), v23) else none) else none
  else bif (decide (0 ≤ v21)) then bif (decide (v21 < (v23.length : Int))) then bif (decide (v21 ≤ (((List.take (v21).toNat v23) ++ (List.replicate (((v23.length : Int) - v21)).toNat [(AV.int 0), (AV.int 0), (AV.int 0)])).length : Int))) then bif ((decide ((-9223372036854775808) ≤ (v17 + 1))) && (decide ((v17 + 1) ≤ 9223372036854775807))) then go0 ((List.take (v21).toNat ((List.take (v21).toNat v23) ++ (List.replicate (((v23.length : Int) - v21)).toNat [(AV.int 0), (AV.int 0), (AV.int 0)]))), (v17 + 1)) else none else none else none else none)
def merge_Debts_7 (n : Nat) (go0 : merge_Debts_s0 → Option merge_Debts_a) (go1 : merge_Debts_s2 → Option merge_Debts_a) (v17 : Int) (v19 : Lv) (v20 : Int) : Option merge_Debts_a :=
  (bif (decide (v20 < (v19.length : Int))) then bif (decide (0 ≤ v20)) then (bif (decide ((cI v19 v20 0) = (cI v19 v20 1))) then (bif (decide (v20 = (-1))) then bif ((decide ((-9223372036854775808) ≤ (v17 + 1))) && (decide ((v17 + 1) ≤ 9223372036854775807))) then go0 (v19, (v17 + 1)) else none
  else bif ((decide ((-9223372036854775808) ≤ (v20 + 1))) && (decide ((v20 + 1) ≤ 9223372036854775807))) then (iterF (fun go1 s => merge_Debts_8 n go0 go1 v17 s.1 s.2.1 s.2.2) n ((v20, (v20 + 1), v19) : merge_Debts_s1)) else none)
  else bif ((decide ((-9223372036854775808) ≤ (v20 + 1))) && (decide ((v20 + 1) ≤ 9223372036854775807))) then go1 (v20 + 1) else none) else none
  else bif ((decide ((-9223372036854775808) ≤ (v17 + 1))) && (decide ((v17 + 1) ≤ 9223372036854775807))) then go0 (v19, (v17 + 1)) else none)
def merge_Debts_6 (n : Nat) (go0 : merge_Debts_s0 → Option merge_Debts_a) (go1 : merge_Debts_s3 → Option merge_Debts_a) (v5 v16 : Lv) (v17 v18 : Int) (v19 : Lv) : Option merge_Debts_a :=
  (bif (decide (v18 < (v16.length : Int))) then bif (decide (0 ≤ v18)) then bif (decide (v18 < (v19.length : Int))) then (bif (decide ((cI v19 v18 0) = (cI v5 v17 2))) then (bif (decide ((cI v19 v18 1) = (cI v5 v17 2))) then bif ((decide ((-9223372036854775808) ≤ (v18 + 1))) && (decide ((v18 + 1) ≤ 9223372036854775807))) then go1 ((v18 + 1), (List.modify (List.modify v19 (v18).toNat (fun r => r.set 0 (AV.int (cI v5 v17 3)))) (v18).toNat (fun r => r.set 1 (AV.int (cI v5 v17 3))))) else none
  else bif ((decide ((-9223372036854775808) ≤ (v18 + 1))) && (decide ((v18 + 1) ≤ 9223372036854775807))) then go1 ((v18 + 1), (List.modify v19 (v18).toNat (fun r => r.set 0 (AV.int (cI v5 v17 3))))) else none)
  else (bif (decide ((cI v19 v18 1) = (cI v5 v17 2))) then bif ((decide ((-9223372036854775808) ≤ (v18 + 1))) && (decide ((v18 + 1) ≤ 9223372036854775807))) then go1 ((v18 + 1), (List.modify v19 (v18).toNat (fun r => r.set 1 (AV.int (cI v5 v17 3))))) else none
  else bif ((decide ((-9223372036854775808) ≤ (v18 + 1))) && (decide ((v18 + 1) ≤ 9223372036854775807))) then go1 ((v18 + 1), v19) else none)) else none else none
  else (iterF (fun go1 s => merge_Debts_7 n go0 go1 v17 v19 s) n (0 : merge_Debts_s2)))
abbrev merge_Debts_14 := @merge_Debts_8
abbrev merge_Debts_13 := @merge_Debts_7
def merge_Debts_12 (n : Nat) (go0 : merge_Debts_s0 → Option merge_Debts_a) (go1 : merge_Debts_s3 → Option merge_Debts_a) (v5 v16 : Lv) (v17 v18 : Int) (v19 : Lv) : Option merge_Debts_a :=
  (bif (decide (v18 < ((v16.length : Int) + 1))) then bif (decide (0 ≤ v18)) then bif (decide (v18 < (v19.length : Int))) then (bif (decide ((cI v19 v18 0) = (cI v5 v17 2))) then (bif (decide ((cI v19 v18 1) = (cI v5 v17 2))) then bif ((decide ((-9223372036854775808) ≤ (v18 + 1))) && (decide ((v18 + 1) ≤ 9223372036854775807))) then go1 ((v18 + 1), (List.modify (List.modify v19 (v18).toNat (fun r => r.set 0 (AV.int (cI v5 v17 4)))) (v18).toNat (fun r => r.set 1 (AV.int (cI v5 v17 4))))) else none
  else bif ((decide ((-9223372036854775808) ≤ (v18 + 1))) && (decide ((v18 + 1) ≤ 9223372036854775807))) then go1 ((v18 + 1), (List.modify v19 (v18).toNat (fun r => r.set 0 (AV.int (cI v5 v17 4))))) else none)
  else (bif (decide ((cI v19 v18 1) = (cI v5 v17 2))) then bif ((decide ((-9223372036854775808) ≤ (v18 + 1))) && (decide ((v18 + 1) ≤ 9223372036854775807))) then go1 ((v18 + 1), (List.modify v19 (v18).toNat (fun r => r.set 1 (AV.int (cI v5 v17 4))))) else none
  else bif ((decide ((-9223372036854775808) ≤ (v18 + 1))) && (decide ((v18 + 1) ≤ 9223372036854775807))) then go1 ((v18 + 1), v19) else none)) else none else none
  else (iterF (fun go1 s => merge_Debts_13 n go0 go1 v17 v19 s) n (0 : merge_Debts_s2)))
abbrev merge_Debts_18 := @merge_Debts_8
abbrev merge_Debts_17 := @merge_Debts_7
abbrev merge_Debts_16 := @merge_Debts_12
abbrev merge_Debts_21 := @merge_Debts_8
abbrev merge_Debts_20 := @merge_Debts_7
def merge_Debts_19 (n : Nat) (go0 : merge_Debts_s0 → Option merge_Debts_a) (go1 : merge_Debts_s3 → Option merge_Debts_a) (v5 v16 : Lv) (v17 v18 : Int) (v19 : Lv) : Option merge_Debts_a :=
  (bif (decide (v18 < (v16.length : Int))) then bif (decide (0 ≤ v18)) then bif (decide (v18 < (v19.length : Int))) then (bif (decide ((cI v19 v18 0) = (cI v5 v17 2))) then (bif (decide ((cI v19 v18 1) = (cI v5 v17 2))) then bif ((decide ((-9223372036854775808) ≤ (v18 + 1))) && (decide ((v18 + 1) ≤ 9223372036854775807))) then go1 ((v18 + 1), (List.modify (List.modify v19 (v18).toNat (fun r => r.set 0 (AV.int (cI v5 v17 4)))) (v18).toNat (fun r => r.set 1 (AV.int (cI v5 v17 4))))) else none
  else bif ((decide ((-9223372036854775808) ≤ (v18 + 1))) && (decide ((v18 + 1) ≤ 9223372036854775807))) then go1 ((v18 + 1), (List.modify v19 (v18).toNat (fun r => r.set 0 (AV.int (cI v5 v17 4))))) else none)
  else (bif (decide ((cI v19 v18 1) = (cI v5 v17 2))) then bif ((decide ((-9223372036854775808) ≤ (v18 + 1))) && (decide ((v18 + 1) ≤ 9223372036854775807))) then go1 ((v18 + 1), (List.modify v19 (v18).toNat (fun r => r.set 1 (AV.int (cI v5 v17 4))))) else none
  else bif ((decide ((-9223372036854775808) ≤ (v18 + 1))) && (decide ((v18 + 1) ≤ 9223372036854775807))) then go1 ((v18 + 1), v19) else none)) else none else none
  else (iterF (fun go1 s => merge_Debts_20 n go0 go1 v17 v19 s) n (0 : merge_Debts_s2)))
def merge_Debts_15 (n : Nat) (go0 : merge_Debts_s0 → Option merge_Debts_a) (v5 v16 : Lv) (v17 : Int) : Option merge_Debts_a :=
  (bif (decide ((cI v5 v17 7) < 0)) then bif ((decide ((-9223372036854775808) ≤ (0 - (cI v5 v17 7)))) && (decide ((0 - (cI v5 v17 7)) ≤ 9223372036854775807))) then bif (decide ((((v16.length : Int) + 1) * 24) ≤ 140737488355328)) then (iterF (fun go1 s => merge_Debts_16 n go0 go1 v5 v16 v17 s.1 s.2) n ((0, (v16 ++ [[(AV.int (cI v5 v17 3)), (AV.int (cI v5 v17 2)), (AV.int (0 - (cI v5 v17 7)))]])) : merge_Debts_s3)) else none else none
  else (iterF (fun go1 s => merge_Debts_19 n go0 go1 v5 v16 v17 s.1 s.2) n ((0, v16) : merge_Debts_s3)))
def merge_Debts_11 (n : Nat) (go0 : merge_Debts_s0 → Option merge_Debts_a) (v5 v16 : Lv) (v17 : Int) : Option merge_Debts_a :=
  (bif (decide (0 < (cI v5 v17 7))) then bif (decide ((((v16.length : Int) + 1) * 24) ≤ 140737488355328)) then (iterF (fun go1 s => merge_Debts_12 n go0 go1 v5 v16 v17 s.1 s.2) n ((0, (v16 ++ [[(AV.int (cI v5 v17 2)), (AV.int (cI v5 v17 3)), (AV.int (cI v5 v17 7))]])) : merge_Debts_s3)) else none
  else merge_Debts_15 n go0 v5 v16 v17)
def merge_Debts_10 (n : Nat) (go0 : merge_Debts_s0 → Option merge_Debts_a) (v5 v16 : Lv) (v17 : Int) : Option merge_Debts_a :=
  (bif (decide ((cI v5 v17 0) = 3)) then merge_Debts_11 n go0 v5 v16 v17
  else bif ((decide ((-9223372036854775808) ≤ (v17 + 1))) && (decide ((v17 + 1) ≤ 9223372036854775807))) then go0 (v16, (v17 + 1)) else none)
def merge_Debts_9 (n : Nat) (go0 : merge_Debts_s0 → Option merge_Debts_a) (v5 v16 : Lv) (v17 : Int) : Option merge_Debts_a :=
  (bif (decide ((cI v5 v17 0) = 2)) then (bif (decide (0 < (cI v5 v17 7))) then bif (decide ((((v16.length : Int) + 1) * 24) ≤ 140737488355328)) then bif ((decide ((-9223372036854775808) ≤ (v17 + 1))) && (decide ((v17 + 1) ≤ 9223372036854775807))) then go0 ((v16 ++ [[(AV.int (cI v5 v17 2)), (AV.int (cI v5 v17 3)), (AV.int (cI v5 v17 7))]]), (v17 + 1)) else none else none
  else (bif (decide ((cI v5 v17 7) < 0)) then bif ((decide ((-9223372036854775808) ≤ (0 - (cI v5 v17 7)))) && (decide ((0 - (cI v5 v17 7)) ≤ 9223372036854775807))) then bif (decide ((((v16.length : Int) + 1) * 24) ≤ 140737488355328)) then bif ((decide ((-9223372036854775808) ≤ (v17 + 1))) && (decide ((v17 + 1) ≤ 9223372036854775807))) then go0 ((v16 ++ [[(AV.int (cI v5 v17 3)), (AV.int (cI v5 v17 2)), (AV.int (0 - (cI v5 v17 7)))]]), (v17 + 1)) else none else none else none
  else bif ((decide ((-9223372036854775808) ≤ (v17 + 1))) && (decide ((v17 + 1) ≤ 9223372036854775807))) then go0 (v16, (v17 + 1)) else none))
  else merge_Debts_10 n go0 v5 v16 v17)
def merge_Debts_5 (n : Nat) (go0 : merge_Debts_s0 → Option merge_Debts_a) (v5 v16 : Lv) (v17 : Int) : Option merge_Debts_a :=
  (bif (decide ((cI v5 v17 0) = 1)) then (iterF (fun go1 s => merge_Debts_6 n go0 go1 v5 v16 v17 s.1 s.2) n ((0, v16) : merge_Debts_s3))
  else merge_Debts_9 n go0 v5 v16 v17)
def merge_Debts_4 (n : Nat) (go0 : merge_Debts_s0 → Option merge_Debts_a) (v5 v16 : Lv) (v17 : Int) : Option merge_Debts_a :=
  (bif (decide (v17 < (v5.length : Int))) then bif (decide (0 ≤ v17)) then merge_Debts_5 n go0 v5 v16 v17 else none
  else some (v16, 0))
def merge_Debts_3 (n : Nat) (go0 : merge_Debts_s2 → Option merge_Debts_a) (v5 v6 : Lv) (v14 : Int) : Option merge_Debts_a :=
  (bif (decide (v14 < (v6.length : Int))) then bif (decide (0 ≤ v14)) then (bif (decide (0 ≤ (cI v6 v14 0))) then (bif (!(decide ((cI v6 v14 0) ≤ 7))) then some (([] : Lv), 420)
  else (bif (decide (0 ≤ (cI v6 v14 1))) then (bif (!(decide ((cI v6 v14 1) ≤ 7))) then some (([] : Lv), 420)
  else bif ((decide ((-9223372036854775808) ≤ (v14 + 1))) && (decide ((v14 + 1) ≤ 9223372036854775807))) then go0 (v14 + 1) else none)
  else some (([] : Lv), 420)))
  else some (([] : Lv), 420)) else none
  else (slices_Clone___api_Debt_api_Debt n v6).bind fun y15 =>
  (iterF (fun go0 s => merge_Debts_4 n go0 v5 s.1 s.2) n ((y15, 0) : merge_Debts_s0)))
def merge_Debts_2 (n : Nat) (v5 v6 : Lv) (v13 : Int) : Option merge_Debts_a :=
  (bif (!(decide (v13 = 0))) then some (([] : Lv), 420)
  else (iterF (fun go0 s => merge_Debts_3 n go0 v5 v6 s) n (0 : merge_Debts_s2)))
def merge_Debts_1 (n : Nat) (v0 v1 : Int) (v2 v3 v4 v5 v6 : Lv) : Option merge_Debts_a :=
  (merge_Run n v0 v1 v2 v3 v4 v5).bind fun y7 =>
  merge_Debts_2 n v5 v6 y7.2.2.2.2.2.2
def merge_Debts (n : Nat) (v0 v1 : Int) (v2 v3 v4 v5 v6 : Lv) : Option merge_Debts_a := merge_Debts_1 n v0 v1 v2 v3 v4 v5 v6
def merge_Debts_t : FnT := ⟨[(true, [.int, .int, (.sl (.cons .int (.cons .int (.cons .int .nil)))), (.sl (.cons .int .nil)), (.sl (.cons .int .nil))]), (false, [(.sl (.cons .int (.cons .int (.cons .int (.cons .int (.cons .int (.cons .int (.cons .int (.cons .int .nil)))))))))]), (false, [(.sl (.cons .int (.cons .int (.cons .int .nil))))])], (.tup (.cons (.row 114 (.cons .int (.cons .int (.cons .int .nil)))) (.cons .i .nil))), fun n (s : Int × Int × Lv × Lv × Lv × Lv × Lv) => merge_Debts n s.1 s.2.1 s.2.2.1 s.2.2.2.1 s.2.2.2.2.1 s.2.2.2.2.2.1 s.2.2.2.2.2.2⟩
theorem merge_Debts_ok : merge_Debts_t.ok Tryz.prog 26 := FnT.ok_of (cfg := ⟨[((131, 2, 6), .inv [(.tmp 8 .int)]), ((26, 7, 8), .inv [(.tmprow 12 114 (.cons .int (.cons .int (.cons .int .nil)))), (.tmp 33 .int)]), ((88, 2, 12), .inv [(.tmp 11 .int), (.inrow 8 114 (.cons .int (.cons .int (.cons .int .nil))))]), ((131, 2, 14), .inv [(.tmp 8 .int)]), ((132, 5, 16), .inv [(.tmp 5 .int), (.tmp 6 .int), (.inrow 8 114 (.cons .int (.cons .int (.cons .int .nil))))]), ((88, 2, 14), .inv [(.tmp 11 .int), (.inrow 13 114 (.cons .int (.cons .int (.cons .int .nil))))]), ((131, 2, 16), .inv [(.tmp 8 .int)]), ((132, 5, 18), .inv [(.tmp 5 .int), (.tmp 6 .int), (.inrow 13 114 (.cons .int (.cons .int (.cons .int .nil))))])], consD10, [(132, 11), (132, 12)], []⟩) (tab := merge_At_T) (mt := mt0) pfit merge_At_T_ok mt0_ok (fun s fn hf => by rw [Tryz.func26] at hf; cases hf; kernel_rfl) (fun n s => by kernel_rfl)
def merge_Debts_T : Tab := (26, merge_Debts_t) :: merge_At_T
theorem merge_Debts_T_ok : merge_Debts_T.ok Tryz.prog := Tab.ok_cons merge_Debts_ok merge_At_T_ok
end
end Go.Proofs.YtgckmifmjiklmaaGreat
