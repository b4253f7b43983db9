/-
  Plain functions for functions of the program, each with its contract (printed by decomp.py).
-/
import Derived.Test.YtgckmifmjiklmaaGreatSxP
import Derived.Test.YtgckmifmjiklmaaGreatSx25
import Derived.Test.YtgckmifmjiklmaaGreatDC
set_option linter.unusedSimpArgs false
set_option linter.unusedVariables false
set_option maxRecDepth 100000
namespace Go.Proofs.YtgckmifmjiklmaaGreat
open Go Go.Sx
noncomputable section
def consD7 : List Nat := [11, 12, 13, 14, 15, 16, 17, 18, 19, 20, 21, 22, 23, 24, 25, 26, 27, 28, 29, 30, 31, 32, 33, 34, 35, 36, 37, 38, 40, 46, 47, 51, 52, 54, 55, 56, 57, 58, 59, 61, 62, 63, 64, 66, 67, 69, 80, 83, 87, 90, 91, 92, 95, 96, 115, 116, 121, 122, 127, 128, 164, 165, 166, 197, 198, 201, 204, 205, 216, 229, 1000012, 1000056, 1000197, 1000216, 1000229]
/-! dialtone/merge.step -/
abbrev merge_step_a := Int × Int × Lv × Lv × Lv × Int
abbrev merge_step_s0 := Int
def merge_step_3 (n : Nat) (v0 v1 : Int) (v2 v3 v4 : Lv) (v6 v7 v8 v9 v10 v11 v12 : Int) : Option merge_step_a :=
  (bif (decide (v6 ≤ 10000000)) then (bif (decide (0 ≤ v7)) then (bif (decide (v7 ≤ 7)) then (bif (decide (0 ≤ v8)) then (bif (decide (v8 ≤ 7)) then (bif (decide (0 ≤ v9)) then (bif (decide (v9 ≤ 7)) then (bif (!(decide ((IOp.f .and (IOp.f .shr v0 v7) 1) = 1))) then some (0, 0, ([] : Lv), ([] : Lv), ([] : Lv), 420)
  else (slices_Clone___api_Block_api_Block n v2).bind fun y13 =>
  (slices_Clone___int_int n v3).bind fun y14 =>
  (slices_Clone___int_int n v4).bind fun y15 =>
  (bif ((decide (v10 = 0)) && (decide (v11 = 0))) then (bif (decide (v12 = 0)) then (bif (decide (v9 = 0)) then (bif (decide ((IOp.f .and (IOp.f .shr v0 v8) 1) = 1)) then (bif ((decide (v7 = v8)) == true) then some (0, 0, ([] : Lv), ([] : Lv), ([] : Lv), 420)
  else (block_Swap n y13 v7 v8).bind fun y16 =>
  (bif (!(decide (y16.2 = 0))) then some (0, 0, ([] : Lv), ([] : Lv), ([] : Lv), 420)
  else bif (decide (v8 < (y14.length : Int))) then bif (decide (v7 < (y14.length : Int))) then bif ((decide ((-9223372036854775808) ≤ ((cI y14 v8 0) + (cI y14 v7 0)))) && (decide (((cI y14 v8 0) + (cI y14 v7 0)) ≤ 9223372036854775807))) then bif (decide (v7 < (y15.length : Int))) then (merge_Valid n (IOp.f .andNot v0 (IOp.f .shl 1 v7)) v1 y16.1 (List.modify (List.modify y14 (v8).toNat (fun r => r.set 0 (AV.int ((cI y14 v8 0) + (cI y14 v7 0))))) (v7).toNat (fun r => r.set 0 (AV.int 0))) (List.modify y15 (v7).toNat (fun r => r.set 0 (AV.int 0)))).bind fun y18 =>
  (bif (!y18) then some (0, 0, ([] : Lv), ([] : Lv), ([] : Lv), 420)
  else some ((IOp.f .andNot v0 (IOp.f .shl 1 v7)), v1, y16.1, (List.modify (List.modify y14 (v8).toNat (fun r => r.set 0 (AV.int ((cI y14 v8 0) + (cI y14 v7 0))))) (v7).toNat (fun r => r.set 0 (AV.int 0))), (List.modify y15 (v7).toNat (fun r => r.set 0 (AV.int 0))), 0)) else none else none else none else none))
  else some (0, 0, ([] : Lv), ([] : Lv), ([] : Lv), 420))
  else some (0, 0, ([] : Lv), ([] : Lv), ([] : Lv), 420))
  else some (0, 0, ([] : Lv), ([] : Lv), ([] : Lv), 420))
  else some (0, 0, ([] : Lv), ([] : Lv), ([] : Lv), 420)))
  else some (0, 0, ([] : Lv), ([] : Lv), ([] : Lv), 420))
  else some (0, 0, ([] : Lv), ([] : Lv), ([] : Lv), 420))
  else some (0, 0, ([] : Lv), ([] : Lv), ([] : Lv), 420))
  else some (0, 0, ([] : Lv), ([] : Lv), ([] : Lv), 420))
  else some (0, 0, ([] : Lv), ([] : Lv), ([] : Lv), 420))
  else some (0, 0, ([] : Lv), ([] : Lv), ([] : Lv), 420))
  else some (0, 0, ([] : Lv), ([] : Lv), ([] : Lv), 420))
def merge_step_2 (n : Nat) (v0 v1 : Int) (v2 v3 v4 : Lv) (v6 v7 v8 v9 v10 v11 v12 : Int) : Option merge_step_a :=
  (bif (decide (0 ≤ v6)) then merge_step_3 n v0 v1 v2 v3 v4 v6 v7 v8 v9 v10 v11 v12
  else some (0, 0, ([] : Lv), ([] : Lv), ([] : Lv), 420))
def merge_step_12 (n : Nat) (v0 v1 : Int) (v2 v3 v4 : Lv) (v7 v8 v9 v10 v11 v12 : Int) : Option merge_step_a :=
  (bif (decide (v9 ≤ 7)) then (bif (!(decide ((IOp.f .and (IOp.f .shr v0 v7) 1) = 1))) then some (0, 0, ([] : Lv), ([] : Lv), ([] : Lv), 420)
  else (slices_Clone___api_Block_api_Block n v2).bind fun y13 =>
  (slices_Clone___int_int n v3).bind fun y14 =>
  (slices_Clone___int_int n v4).bind fun y15 =>
  (bif (decide (0 ≤ v10)) then (bif (decide (v10 < v11)) then (bif (decide (v11 ≤ 100000000)) then (bif (decide ((-1000000000000) ≤ v12)) then (bif (decide (v12 ≤ 1000000000000)) then (bif (decide (v9 = 0)) then (bif ((decide ((IOp.f .and (IOp.f .shr v1 v8) 1) = 1)) == true) then some (0, 0, ([] : Lv), ([] : Lv), ([] : Lv), 420)
  else (block_Only n y13 v10 v11).bind fun y16 =>
  (bif (!(decide (y16.2 = 0))) then some (0, 0, ([] : Lv), ([] : Lv), ([] : Lv), 420)
  else (block_Swap n y16.1 v7 v8).bind fun y18 =>
  (bif (!(decide (y18.2 = 0))) then some (0, 0, ([] : Lv), ([] : Lv), ([] : Lv), 420)
  else (block_Overlay n y13 y18.1).bind fun y20 =>
  (bif (!(decide (y20.2 = 0))) then some (0, 0, ([] : Lv), ([] : Lv), ([] : Lv), 420)
  else bif (decide (v7 < (y14.length : Int))) then bif ((decide ((-9223372036854775808) ≤ ((cI y14 v7 0) - v12))) && (decide (((cI y14 v7 0) - v12) ≤ 9223372036854775807))) then bif (decide (v7 < (y15.length : Int))) then bif (decide (v8 < (y14.length : Int))) then bif (decide (v8 < (y15.length : Int))) then (merge_Valid n (IOp.f .or v0 (IOp.f .shl 1 v8)) (IOp.f .or v1 (IOp.f .shl 1 v8)) y20.1 (List.modify (List.modify y14 (v7).toNat (fun r => r.set 0 (AV.int ((cI y14 v7 0) - v12)))) (v8).toNat (fun r => r.set 0 (AV.int v12))) (List.modify y15 (v8).toNat (fun r => r.set 0 (AV.int (cI y15 v7 0))))).bind fun y22 =>
  (bif (!y22) then some (0, 0, ([] : Lv), ([] : Lv), ([] : Lv), 420)
  else some ((IOp.f .or v0 (IOp.f .shl 1 v8)), (IOp.f .or v1 (IOp.f .shl 1 v8)), y20.1, (List.modify (List.modify y14 (v7).toNat (fun r => r.set 0 (AV.int ((cI y14 v7 0) - v12)))) (v8).toNat (fun r => r.set 0 (AV.int v12))), (List.modify y15 (v8).toNat (fun r => r.set 0 (AV.int (cI y15 v7 0)))), 0)) else none else none else none else none else none))))
  else some (0, 0, ([] : Lv), ([] : Lv), ([] : Lv), 420))
  else some (0, 0, ([] : Lv), ([] : Lv), ([] : Lv), 420))
  else some (0, 0, ([] : Lv), ([] : Lv), ([] : Lv), 420))
  else some (0, 0, ([] : Lv), ([] : Lv), ([] : Lv), 420))
  else some (0, 0, ([] : Lv), ([] : Lv), ([] : Lv), 420))
  else some (0, 0, ([] : Lv), ([] : Lv), ([] : Lv), 420)))
  else some (0, 0, ([] : Lv), ([] : Lv), ([] : Lv), 420))
def merge_step_11 (n : Nat) (v0 v1 : Int) (v2 v3 v4 : Lv) (v7 v8 v9 v10 v11 v12 : Int) : Option merge_step_a :=
  (bif (decide (0 ≤ v9)) then merge_step_12 n v0 v1 v2 v3 v4 v7 v8 v9 v10 v11 v12
  else some (0, 0, ([] : Lv), ([] : Lv), ([] : Lv), 420))
def merge_step_10 (n : Nat) (v0 v1 : Int) (v2 v3 v4 : Lv) (v7 v8 v9 v10 v11 v12 : Int) : Option merge_step_a :=
  (bif (decide (v8 ≤ 7)) then merge_step_11 n v0 v1 v2 v3 v4 v7 v8 v9 v10 v11 v12
  else some (0, 0, ([] : Lv), ([] : Lv), ([] : Lv), 420))
def merge_step_9 (n : Nat) (v0 v1 : Int) (v2 v3 v4 : Lv) (v7 v8 v9 v10 v11 v12 : Int) : Option merge_step_a :=
  (bif (decide (0 ≤ v8)) then merge_step_10 n v0 v1 v2 v3 v4 v7 v8 v9 v10 v11 v12
  else some (0, 0, ([] : Lv), ([] : Lv), ([] : Lv), 420))
def merge_step_8 (n : Nat) (v0 v1 : Int) (v2 v3 v4 : Lv) (v7 v8 v9 v10 v11 v12 : Int) : Option merge_step_a :=
  (bif (decide (v7 ≤ 7)) then merge_step_9 n v0 v1 v2 v3 v4 v7 v8 v9 v10 v11 v12
  else some (0, 0, ([] : Lv), ([] : Lv), ([] : Lv), 420))
def merge_step_7 (n : Nat) (v0 v1 : Int) (v2 v3 v4 : Lv) (v7 v8 v9 v10 v11 v12 : Int) : Option merge_step_a :=
  (bif (decide (0 ≤ v7)) then merge_step_8 n v0 v1 v2 v3 v4 v7 v8 v9 v10 v11 v12
  else some (0, 0, ([] : Lv), ([] : Lv), ([] : Lv), 420))
def merge_step_6 (n : Nat) (v0 v1 : Int) (v2 v3 v4 : Lv) (v6 v7 v8 v9 v10 v11 v12 : Int) : Option merge_step_a :=
  (bif (decide (v6 ≤ 10000000)) then merge_step_7 n v0 v1 v2 v3 v4 v7 v8 v9 v10 v11 v12
  else some (0, 0, ([] : Lv), ([] : Lv), ([] : Lv), 420))
def merge_step_5 (n : Nat) (v0 v1 : Int) (v2 v3 v4 : Lv) (v6 v7 v8 v9 v10 v11 v12 : Int) : Option merge_step_a :=
  (bif (decide (0 ≤ v6)) then merge_step_6 n v0 v1 v2 v3 v4 v6 v7 v8 v9 v10 v11 v12
  else some (0, 0, ([] : Lv), ([] : Lv), ([] : Lv), 420))
def merge_step_28 (n : Nat) (v0 v1 v7 v8 v9 v10 v11 v12 : Int) (v13 v14 v15 : Lv) : Option merge_step_a :=
  (bif (decide ((IOp.f .and (IOp.f .shr v0 v8) 1) = 1)) then (bif (decide ((IOp.f .and (IOp.f .shr v0 v9) 1) = 1)) then (bif (!(decide (v7 = v8))) then (bif ((decide (v7 = v9)) == true) then some (0, 0, ([] : Lv), ([] : Lv), ([] : Lv), 420)
  else (block_Only n v13 v10 v11).bind fun y16 =>
  (bif (!(decide (y16.2 = 0))) then some (0, 0, ([] : Lv), ([] : Lv), ([] : Lv), 420)
  else (block_Swap n y16.1 v7 v8).bind fun y18 =>
  (bif (!(decide (y18.2 = 0))) then some (0, 0, ([] : Lv), ([] : Lv), ([] : Lv), 420)
  else (block_Swap n v13 v7 v9).bind fun y20 =>
  (bif (!(decide (y20.2 = 0))) then some (0, 0, ([] : Lv), ([] : Lv), ([] : Lv), 420)
  else (block_Overlay n y20.1 y18.1).bind fun y22 =>
  (bif (!(decide (y22.2 = 0))) then some (0, 0, ([] : Lv), ([] : Lv), ([] : Lv), 420)
  else bif (decide (v8 < (v14.length : Int))) then bif ((decide ((-9223372036854775808) ≤ ((cI v14 v8 0) + v12))) && (decide (((cI v14 v8 0) + v12) ≤ 9223372036854775807))) then bif (decide (v9 < (v14.length : Int))) then bif (decide (v7 < (v14.length : Int))) then bif ((decide ((-9223372036854775808) ≤ ((cI (List.modify v14 (v8).toNat (fun r => r.set 0 (AV.int ((cI v14 v8 0) + v12)))) v7 0) - v12))) && (decide (((cI (List.modify v14 (v8).toNat (fun r => r.set 0 (AV.int ((cI v14 v8 0) + v12)))) v7 0) - v12) ≤ 9223372036854775807))) then bif ((decide ((-9223372036854775808) ≤ ((cI (List.modify v14 (v8).toNat (fun r => r.set 0 (AV.int ((cI v14 v8 0) + v12)))) v9 0) + ((cI (List.modify v14 (v8).toNat (fun r => r.set 0 (AV.int ((cI v14 v8 0) + v12)))) v7 0) - v12)))) && (decide (((cI (List.modify v14 (v8).toNat (fun r => r.set 0 (AV.int ((cI v14 v8 0) + v12)))) v9 0) + ((cI (List.modify v14 (v8).toNat (fun r => r.set 0 (AV.int ((cI v14 v8 0) + v12)))) v7 0) - v12)) ≤ 9223372036854775807))) then bif (decide (v7 < (v15.length : Int))) then (merge_Valid n (IOp.f .andNot v0 (IOp.f .shl 1 v7)) v1 y22.1 (List.modify (List.modify (List.modify v14 (v8).toNat (fun r => r.set 0 (AV.int ((cI v14 v8 0) + v12)))) (v9).toNat (fun r => r.set 0 (AV.int ((cI (List.modify v14 (v8).toNat (fun r => r.set 0 (AV.int ((cI v14 v8 0) + v12)))) v9 0) + ((cI (List.modify v14 (v8).toNat (fun r => r.set 0 (AV.int ((cI v14 v8 0) + v12)))) v7 0) - v12))))) (v7).toNat (fun r => r.set 0 (AV.int 0))) (List.modify v15 (v7).toNat (fun r => r.set 0 (AV.int 0)))).bind fun y24 =>
  (bif (!y24) then some (0, 0, ([] : Lv), ([] : Lv), ([] : Lv), 420)
  else some ((IOp.f .andNot v0 (IOp.f .shl 1 v7)), v1, y22.1, (List.modify (List.modify (List.modify v14 (v8).toNat (fun r => r.set 0 (AV.int ((cI v14 v8 0) + v12)))) (v9).toNat (fun r => r.set 0 (AV.int ((cI (List.modify v14 (v8).toNat (fun r => r.set 0 (AV.int ((cI v14 v8 0) + v12)))) v9 0) + ((cI (List.modify v14 (v8).toNat (fun r => r.set 0 (AV.int ((cI v14 v8 0) + v12)))) v7 0) - v12))))) (v7).toNat (fun r => r.set 0 (AV.int 0))), (List.modify v15 (v7).toNat (fun r => r.set 0 (AV.int 0))), 0)) else none else none else none else none else none else none else none)))))
  else some (0, 0, ([] : Lv), ([] : Lv), ([] : Lv), 420))
  else some (0, 0, ([] : Lv), ([] : Lv), ([] : Lv), 420))
  else some (0, 0, ([] : Lv), ([] : Lv), ([] : Lv), 420))
def merge_step_27 (n : Nat) (v0 v1 v7 v8 v9 v10 v11 v12 : Int) (v13 v14 v15 : Lv) : Option merge_step_a :=
  (bif (decide (v12 ≤ 1000000000000)) then merge_step_28 n v0 v1 v7 v8 v9 v10 v11 v12 v13 v14 v15
  else some (0, 0, ([] : Lv), ([] : Lv), ([] : Lv), 420))
def merge_step_26 (n : Nat) (v0 v1 v7 v8 v9 v10 v11 v12 : Int) (v13 v14 v15 : Lv) : Option merge_step_a :=
  (bif (decide ((-1000000000000) ≤ v12)) then merge_step_27 n v0 v1 v7 v8 v9 v10 v11 v12 v13 v14 v15
  else some (0, 0, ([] : Lv), ([] : Lv), ([] : Lv), 420))
def merge_step_25 (n : Nat) (v0 v1 v7 v8 v9 v10 v11 v12 : Int) (v13 v14 v15 : Lv) : Option merge_step_a :=
  (bif (decide (v11 ≤ 100000000)) then merge_step_26 n v0 v1 v7 v8 v9 v10 v11 v12 v13 v14 v15
  else some (0, 0, ([] : Lv), ([] : Lv), ([] : Lv), 420))
def merge_step_24 (n : Nat) (v0 v1 v7 v8 v9 v10 v11 v12 : Int) (v13 v14 v15 : Lv) : Option merge_step_a :=
  (bif (decide (v10 < v11)) then merge_step_25 n v0 v1 v7 v8 v9 v10 v11 v12 v13 v14 v15
  else some (0, 0, ([] : Lv), ([] : Lv), ([] : Lv), 420))
def merge_step_23 (n : Nat) (v0 v1 v7 v8 v9 v10 v11 v12 : Int) (v13 v14 v15 : Lv) : Option merge_step_a :=
  (bif (decide (0 ≤ v10)) then merge_step_24 n v0 v1 v7 v8 v9 v10 v11 v12 v13 v14 v15
  else some (0, 0, ([] : Lv), ([] : Lv), ([] : Lv), 420))
def merge_step_22 (n : Nat) (v0 v1 : Int) (v2 v3 v4 : Lv) (v7 v8 v9 v10 v11 v12 : Int) : Option merge_step_a :=
  (bif (!(decide ((IOp.f .and (IOp.f .shr v0 v7) 1) = 1))) then some (0, 0, ([] : Lv), ([] : Lv), ([] : Lv), 420)
  else (slices_Clone___api_Block_api_Block n v2).bind fun y13 =>
  (slices_Clone___int_int n v3).bind fun y14 =>
  (slices_Clone___int_int n v4).bind fun y15 =>
  merge_step_23 n v0 v1 v7 v8 v9 v10 v11 v12 y13 y14 y15)
def merge_step_21 (n : Nat) (v0 v1 : Int) (v2 v3 v4 : Lv) (v7 v8 v9 v10 v11 v12 : Int) : Option merge_step_a :=
  (bif (decide (v9 ≤ 7)) then merge_step_22 n v0 v1 v2 v3 v4 v7 v8 v9 v10 v11 v12
  else some (0, 0, ([] : Lv), ([] : Lv), ([] : Lv), 420))
def merge_step_20 (n : Nat) (v0 v1 : Int) (v2 v3 v4 : Lv) (v7 v8 v9 v10 v11 v12 : Int) : Option merge_step_a :=
  (bif (decide (0 ≤ v9)) then merge_step_21 n v0 v1 v2 v3 v4 v7 v8 v9 v10 v11 v12
  else some (0, 0, ([] : Lv), ([] : Lv), ([] : Lv), 420))
def merge_step_19 (n : Nat) (v0 v1 : Int) (v2 v3 v4 : Lv) (v7 v8 v9 v10 v11 v12 : Int) : Option merge_step_a :=
  (bif (decide (v8 ≤ 7)) then merge_step_20 n v0 v1 v2 v3 v4 v7 v8 v9 v10 v11 v12
  else some (0, 0, ([] : Lv), ([] : Lv), ([] : Lv), 420))
def merge_step_18 (n : Nat) (v0 v1 : Int) (v2 v3 v4 : Lv) (v7 v8 v9 v10 v11 v12 : Int) : Option merge_step_a :=
  (bif (decide (0 ≤ v8)) then merge_step_19 n v0 v1 v2 v3 v4 v7 v8 v9 v10 v11 v12
  else some (0, 0, ([] : Lv), ([] : Lv), ([] : Lv), 420))
def merge_step_17 (n : Nat) (v0 v1 : Int) (v2 v3 v4 : Lv) (v7 v8 v9 v10 v11 v12 : Int) : Option merge_step_a :=
  (bif (decide (v7 ≤ 7)) then merge_step_18 n v0 v1 v2 v3 v4 v7 v8 v9 v10 v11 v12
  else some (0, 0, ([] : Lv), ([] : Lv), ([] : Lv), 420))
def merge_step_16 (n : Nat) (v0 v1 : Int) (v2 v3 v4 : Lv) (v7 v8 v9 v10 v11 v12 : Int) : Option merge_step_a :=
  (bif (decide (0 ≤ v7)) then merge_step_17 n v0 v1 v2 v3 v4 v7 v8 v9 v10 v11 v12
  else some (0, 0, ([] : Lv), ([] : Lv), ([] : Lv), 420))
def merge_step_15 (n : Nat) (v0 v1 : Int) (v2 v3 v4 : Lv) (v6 v7 v8 v9 v10 v11 v12 : Int) : Option merge_step_a :=
  (bif (decide (v6 ≤ 10000000)) then merge_step_16 n v0 v1 v2 v3 v4 v7 v8 v9 v10 v11 v12
  else some (0, 0, ([] : Lv), ([] : Lv), ([] : Lv), 420))
def merge_step_14 (n : Nat) (v0 v1 : Int) (v2 v3 v4 : Lv) (v6 v7 v8 v9 v10 v11 v12 : Int) : Option merge_step_a :=
  (bif (decide (0 ≤ v6)) then merge_step_15 n v0 v1 v2 v3 v4 v6 v7 v8 v9 v10 v11 v12
  else some (0, 0, ([] : Lv), ([] : Lv), ([] : Lv), 420))
def merge_step_32 (n : Nat) (go0 : merge_step_s0 → Option merge_step_a) (v0 v1 v7 : Int) (v13 v14 v15 : Lv) (v16 : Int) : Option merge_step_a :=
  (bif (decide (v16 < (v15.length : Int))) then bif (decide (0 ≤ v16)) then (bif (!(decide ((IOp.f .and (IOp.f .shr v0 v16) 1) = 1))) then bif ((decide ((-9223372036854775808) ≤ (v16 + 1))) && (decide ((v16 + 1) ≤ 9223372036854775807))) then go0 (v16 + 1) else none
  else bif (decide (v7 < (v15.length : Int))) then (bif (!(decide ((cI v15 v7 0) ≤ (cI v15 v16 0)))) then some (0, 0, ([] : Lv), ([] : Lv), ([] : Lv), 420)
  else bif ((decide ((-9223372036854775808) ≤ (v16 + 1))) && (decide ((v16 + 1) ≤ 9223372036854775807))) then go0 (v16 + 1) else none) else none) else none
  else bif (decide (v7 < (v15.length : Int))) then bif ((decide ((-9223372036854775808) ≤ ((cI v15 v7 0) + 1))) && (decide (((cI v15 v7 0) + 1) ≤ 9223372036854775807))) then (merge_Valid n v0 v1 v13 v14 (List.modify v15 (v7).toNat (fun r => r.set 0 (AV.int ((cI v15 v7 0) + 1))))).bind fun y17 =>
  (bif (!y17) then some (0, 0, ([] : Lv), ([] : Lv), ([] : Lv), 420)
  else some (v0, v1, v13, v14, (List.modify v15 (v7).toNat (fun r => r.set 0 (AV.int ((cI v15 v7 0) + 1)))), 0)) else none else none)
def merge_step_31 (n : Nat) (v0 v1 : Int) (v2 v3 v4 : Lv) (v6 v7 v8 v9 v10 v11 v12 : Int) : Option merge_step_a :=
  (bif (decide (v6 ≤ 10000000)) then (bif (decide (0 ≤ v7)) then (bif (decide (v7 ≤ 7)) then (bif (decide (0 ≤ v8)) then (bif (decide (v8 ≤ 7)) then (bif (decide (0 ≤ v9)) then (bif (decide (v9 ≤ 7)) then (bif (!(decide ((IOp.f .and (IOp.f .shr v0 v7) 1) = 1))) then some (0, 0, ([] : Lv), ([] : Lv), ([] : Lv), 420)
  else (slices_Clone___api_Block_api_Block n v2).bind fun y13 =>
  (slices_Clone___int_int n v3).bind fun y14 =>
  (slices_Clone___int_int n v4).bind fun y15 =>
  (bif ((decide (v10 = 0)) && (decide (v11 = 0))) then (bif (decide (v12 = 0)) then (bif (decide (v8 = 0)) then (bif (!(decide (v9 = 0))) then some (0, 0, ([] : Lv), ([] : Lv), ([] : Lv), 420)
  else (iterF (fun go0 s => merge_step_32 n go0 v0 v1 v7 y13 y14 y15 s) n (0 : merge_step_s0)))
  else some (0, 0, ([] : Lv), ([] : Lv), ([] : Lv), 420))
  else some (0, 0, ([] : Lv), ([] : Lv), ([] : Lv), 420))
  else some (0, 0, ([] : Lv), ([] : Lv), ([] : Lv), 420)))
  else some (0, 0, ([] : Lv), ([] : Lv), ([] : Lv), 420))
  else some (0, 0, ([] : Lv), ([] : Lv), ([] : Lv), 420))
  else some (0, 0, ([] : Lv), ([] : Lv), ([] : Lv), 420))
  else some (0, 0, ([] : Lv), ([] : Lv), ([] : Lv), 420))
  else some (0, 0, ([] : Lv), ([] : Lv), ([] : Lv), 420))
  else some (0, 0, ([] : Lv), ([] : Lv), ([] : Lv), 420))
  else some (0, 0, ([] : Lv), ([] : Lv), ([] : Lv), 420))
def merge_step_30 (n : Nat) (v0 v1 : Int) (v2 v3 v4 : Lv) (v6 v7 v8 v9 v10 v11 v12 : Int) : Option merge_step_a :=
  (bif (decide (0 ≤ v6)) then merge_step_31 n v0 v1 v2 v3 v4 v6 v7 v8 v9 v10 v11 v12
  else some (0, 0, ([] : Lv), ([] : Lv), ([] : Lv), 420))
def merge_step_29 (n : Nat) (v0 v1 : Int) (v2 v3 v4 : Lv) (v5 v6 v7 v8 v9 v10 v11 v12 : Int) : Option merge_step_a :=
  (bif (decide (v5 = 4)) then merge_step_30 n v0 v1 v2 v3 v4 v6 v7 v8 v9 v10 v11 v12
  else some (0, 0, ([] : Lv), ([] : Lv), ([] : Lv), 420))
def merge_step_13 (n : Nat) (v0 v1 : Int) (v2 v3 v4 : Lv) (v5 v6 v7 v8 v9 v10 v11 v12 : Int) : Option merge_step_a :=
  (bif (decide (v5 = 3)) then merge_step_14 n v0 v1 v2 v3 v4 v6 v7 v8 v9 v10 v11 v12
  else merge_step_29 n v0 v1 v2 v3 v4 v5 v6 v7 v8 v9 v10 v11 v12)
def merge_step_4 (n : Nat) (v0 v1 : Int) (v2 v3 v4 : Lv) (v5 v6 v7 v8 v9 v10 v11 v12 : Int) : Option merge_step_a :=
  (bif (decide (v5 = 2)) then merge_step_5 n v0 v1 v2 v3 v4 v6 v7 v8 v9 v10 v11 v12
  else merge_step_13 n v0 v1 v2 v3 v4 v5 v6 v7 v8 v9 v10 v11 v12)
def merge_step_1 (n : Nat) (v0 v1 : Int) (v2 v3 v4 : Lv) (v5 v6 v7 v8 v9 v10 v11 v12 : Int) : Option merge_step_a :=
  (bif (decide (v5 = 1)) then merge_step_2 n v0 v1 v2 v3 v4 v6 v7 v8 v9 v10 v11 v12
  else merge_step_4 n v0 v1 v2 v3 v4 v5 v6 v7 v8 v9 v10 v11 v12)
def merge_step (n : Nat) (v0 v1 : Int) (v2 v3 v4 : Lv) (v5 v6 v7 v8 v9 v10 v11 v12 : Int) : Option merge_step_a := merge_step_1 n v0 v1 v2 v3 v4 v5 v6 v7 v8 v9 v10 v11 v12
def merge_step_t : FnT := ⟨[(true, [.int, .int, (.sl (.cons .int (.cons .int (.cons .int .nil)))), (.sl (.cons .int .nil)), (.sl (.cons .int .nil))]), (true, [.int, .int, .int, .int, .int, .int, .int, .int])], (.tup (.cons (.agg (.cons .i (.cons .i (.cons (.row 116 (.cons .int (.cons .int (.cons .int .nil)))) (.cons (.row 3 (.cons .int .nil)) (.cons (.row 3 (.cons .int .nil)) .nil)))))) (.cons .i .nil))), fun n (s : Int × Int × Lv × Lv × Lv × Int × Int × Int × Int × Int × Int × Int × Int) => merge_step n s.1 s.2.1 s.2.2.1 s.2.2.2.1 s.2.2.2.2.1 s.2.2.2.2.2.1 s.2.2.2.2.2.2.1 s.2.2.2.2.2.2.2.1 s.2.2.2.2.2.2.2.2.1 s.2.2.2.2.2.2.2.2.2.1 s.2.2.2.2.2.2.2.2.2.2.1 s.2.2.2.2.2.2.2.2.2.2.2.1 s.2.2.2.2.2.2.2.2.2.2.2.2⟩
theorem merge_step_ok : merge_step_t.ok Tryz.prog 62 := FnT.ok_of (cfg := ⟨[((170, 3, 21), .inv [(.tmp 25 .int)])], consD7, [], []⟩) (tab := slices_Clone___api_Debt_api_Debt_T) (mt := mt0) pfit slices_Clone___api_Debt_api_Debt_T_ok mt0_ok (fun s fn hf => by rw [Tryz.func62] at hf; cases hf; kernel_rfl) (fun n s => by kernel_rfl)
def merge_step_T : Tab := (62, merge_step_t) :: slices_Clone___api_Debt_api_Debt_T
theorem merge_step_T_ok : merge_step_T.ok Tryz.prog := Tab.ok_cons merge_step_ok slices_Clone___api_Debt_api_Debt_T_ok
/-! dialtone/merge.Step -/
abbrev merge_Step_a := Int × Int × Lv × Lv × Lv × Int
def merge_Step_1 (n : Nat) (v0 v1 : Int) (v2 v3 v4 : Lv) (v5 v6 v7 v8 v9 v10 v11 v12 : Int) : Option merge_Step_a :=
  (merge_Valid n v0 v1 v2 v3 v4).bind fun y13 =>
  (bif (!y13) then some (0, 0, ([] : Lv), ([] : Lv), ([] : Lv), 420)
  else (merge_step n v0 v1 v2 v3 v4 v5 v6 v7 v8 v9 v10 v11 v12).bind fun y14 =>
  some (y14.1, y14.2.1, y14.2.2.1, y14.2.2.2.1, y14.2.2.2.2.1, y14.2.2.2.2.2))
def merge_Step (n : Nat) (v0 v1 : Int) (v2 v3 v4 : Lv) (v5 v6 v7 v8 v9 v10 v11 v12 : Int) : Option merge_Step_a := merge_Step_1 n v0 v1 v2 v3 v4 v5 v6 v7 v8 v9 v10 v11 v12
def merge_Step_t : FnT := ⟨[(true, [.int, .int, (.sl (.cons .int (.cons .int (.cons .int .nil)))), (.sl (.cons .int .nil)), (.sl (.cons .int .nil))]), (true, [.int, .int, .int, .int, .int, .int, .int, .int])], (.tup (.cons (.agg (.cons .i (.cons .i (.cons (.row 116 (.cons .int (.cons .int (.cons .int .nil)))) (.cons (.row 3 (.cons .int .nil)) (.cons (.row 3 (.cons .int .nil)) .nil)))))) (.cons .i .nil))), fun n (s : Int × Int × Lv × Lv × Lv × Int × Int × Int × Int × Int × Int × Int × Int) => merge_Step n s.1 s.2.1 s.2.2.1 s.2.2.2.1 s.2.2.2.2.1 s.2.2.2.2.2.1 s.2.2.2.2.2.2.1 s.2.2.2.2.2.2.2.1 s.2.2.2.2.2.2.2.2.1 s.2.2.2.2.2.2.2.2.2.1 s.2.2.2.2.2.2.2.2.2.2.1 s.2.2.2.2.2.2.2.2.2.2.2.1 s.2.2.2.2.2.2.2.2.2.2.2.2⟩
theorem merge_Step_ok : merge_Step_t.ok Tryz.prog 16 := FnT.ok_of (cfg := ⟨[], consD7, [], []⟩) (tab := merge_step_T) (mt := mt0) pfit merge_step_T_ok mt0_ok (fun s fn hf => by rw [Tryz.func16] at hf; cases hf; kernel_rfl) (fun n s => by kernel_rfl)
def merge_Step_T : Tab := (16, merge_Step_t) :: merge_step_T
theorem merge_Step_T_ok : merge_Step_T.ok Tryz.prog := Tab.ok_cons merge_Step_ok merge_step_T_ok
end
end Go.Proofs.YtgckmifmjiklmaaGreat
