/-
  Plain functions for functions of the program, each with its contract (printed by decomp.py).
-/
import Derived.Test.YtjllgiddmeiaoaaSxP
import Derived.Test.YtjllgiddmeiaoaaSx25
import Derived.Test.YtjllgiddmeiaoaaDM
set_option linter.unusedSimpArgs false
set_option linter.unusedVariables false
set_option maxRecDepth 100000
namespace Go.Proofs.Ytjllgiddmeiaoaa
open Go Go.Sx
noncomputable section
def consD3 : List Nat := [12, 13, 14, 15, 16, 17, 18, 19, 20, 21, 22, 23, 24, 25, 26, 27, 28, 29, 30, 31, 32, 33, 34, 35, 36, 37, 38, 41, 42, 43, 47, 49, 50, 52, 53, 54, 56, 57, 58, 61, 64, 79, 80, 82, 83, 84, 86, 87, 88, 89, 90, 100, 101, 106]
def mapsD3 : List (Nat × SV × SV) := [(69, SV.of [.agg (SV.of [.vi (.int 1), .vi (.int 1)]), .agg (SV.of [.vi (.int 2), .vi (.int 1)]), .agg (SV.of [.vi (.int 3), .vi (.int 2)]), .agg (SV.of [.vi (.int 4), .vi (.int 2)]), .agg (SV.of [.vi (.int 5), .vi (.int 1)]), .agg (SV.of [.vi (.int 5), .vi (.int 2)]), .agg (SV.of [.vi (.int 5), .vi (.int 3)]), .agg (SV.of [.vi (.int 6), .vi (.int 4)])], SV.of [.vi (.int 3), .vi (.int 2), .vi (.int 3), .vi (.int 6), .vi (.int 7), .vi (.int 7), .vi (.int 7), .vi (.int 8)])]
/-! dialtone/claim.Outcome -/
abbrev claim_Outcome_a := Int × Int × Int × Int
abbrev claim_Outcome_s0 := Int × Lv × Int × Int × Int × Int × Int × Int
abbrev claim_Outcome_s1 := Int × Int × Int × Int × Int × Int
def claim_Outcome_14 (n : Nat) (go0 : claim_Outcome_s0 → Option claim_Outcome_a) (go1 : claim_Outcome_s1 → Option claim_Outcome_a) (v9 : Bool) (v10 : Lv) (v11 v13 : Int) (v14 : Lv) (v21 v22 v23 v24 v25 v26 : Int) : Option claim_Outcome_a :=
  (bif ((decide ((cI v10 v13 0) = 5)) && (decide (v24 = 2))) then (bif (decide ((cI v10 v13 2) = 1)) then (bif (v9 == true) then bif (decide ((((v14.length : Int) + 1) * 8) ≤ 140737488355328)) then bif ((decide ((-9223372036854775808) ≤ (v13 + 1))) && (decide ((v13 + 1) ≤ 9223372036854775807))) then go0 ((v13 + 1), (v14 ++ [[(AV.int v13)]]), v21, v22, v23, v24, v25, v26) else none else none
  else (bif (decide (v11 < (cI v10 v13 1))) then some (v21, v22, v23, 0)
  else bif ((decide ((-9223372036854775808) ≤ (v13 + 1))) && (decide ((v13 + 1) ≤ 9223372036854775807))) then go0 ((v13 + 1), v14, 7, (cI v10 v13 1), (-1), 7, (cI v10 v13 1), (-1)) else none))
  else (bif (decide (v11 < (cI v10 v13 1))) then some (v21, v22, v23, 0)
  else bif ((decide ((-9223372036854775808) ≤ (v13 + 1))) && (decide ((v13 + 1) ≤ 9223372036854775807))) then go0 ((v13 + 1), v14, 7, (cI v10 v13 1), (-1), 7, (cI v10 v13 1), (-1)) else none))
  else (bif ((decide ((cI v10 v13 0) = 5)) && (decide (v24 = 3))) then (bif (decide ((cI v10 v13 2) = 1)) then (bif (v9 == true) then bif (decide ((((v14.length : Int) + 1) * 8) ≤ 140737488355328)) then bif ((decide ((-9223372036854775808) ≤ (v13 + 1))) && (decide ((v13 + 1) ≤ 9223372036854775807))) then go0 ((v13 + 1), (v14 ++ [[(AV.int v13)]]), v21, v22, v23, v24, v25, v26) else none else none
  else (bif (decide (v11 < (cI v10 v13 1))) then some (v21, v22, v23, 0)
  else bif ((decide ((-9223372036854775808) ≤ (v13 + 1))) && (decide ((v13 + 1) ≤ 9223372036854775807))) then go0 ((v13 + 1), v14, 7, (cI v10 v13 1), (-1), 7, (cI v10 v13 1), (-1)) else none))
  else (bif (decide (v11 < (cI v10 v13 1))) then some (v21, v22, v23, 0)
  else bif ((decide ((-9223372036854775808) ≤ (v13 + 1))) && (decide ((v13 + 1) ≤ 9223372036854775807))) then go0 ((v13 + 1), v14, 7, (cI v10 v13 1), (-1), 7, (cI v10 v13 1), (-1)) else none))
  else (bif ((decide ((cI v10 v13 0) = 6)) && (decide (v24 = 4))) then (bif (decide ((cI v10 v13 2) = 1)) then (bif (v9 == true) then bif (decide ((((v14.length : Int) + 1) * 8) ≤ 140737488355328)) then bif ((decide ((-9223372036854775808) ≤ (v13 + 1))) && (decide ((v13 + 1) ≤ 9223372036854775807))) then go0 ((v13 + 1), (v14 ++ [[(AV.int v13)]]), v21, v22, v23, v24, v25, v26) else none else none
  else (bif (decide (v11 < (cI v10 v13 1))) then some (v21, v22, v23, 0)
  else bif ((decide ((-9223372036854775808) ≤ (v13 + 1))) && (decide ((v13 + 1) ≤ 9223372036854775807))) then go0 ((v13 + 1), v14, 8, (cI v10 v13 1), (-1), 8, (cI v10 v13 1), (-1)) else none))
  else (bif (decide (v11 < (cI v10 v13 1))) then some (v21, v22, v23, 0)
  else bif ((decide ((-9223372036854775808) ≤ (v13 + 1))) && (decide ((v13 + 1) ≤ 9223372036854775807))) then go0 ((v13 + 1), v14, 8, (cI v10 v13 1), (-1), 8, (cI v10 v13 1), (-1)) else none))
  else (bif (decide ((cI v10 v13 2) = 1)) then (bif (decide ((cI v10 v13 0) = 2)) then bif (decide ((((v14.length : Int) + 1) * 8) ≤ 140737488355328)) then bif ((decide ((-9223372036854775808) ≤ (v13 + 1))) && (decide ((v13 + 1) ≤ 9223372036854775807))) then go0 ((v13 + 1), (v14 ++ [[(AV.int v13)]]), v21, v22, v23, v24, v25, v26) else none else none
  else bif (decide ((((v14.length : Int) + 1) * 8) ≤ 140737488355328)) then bif ((decide ((-9223372036854775808) ≤ (v13 + 1))) && (decide ((v13 + 1) ≤ 9223372036854775807))) then go0 ((v13 + 1), (v14 ++ [[(AV.int v13)]]), v21, v22, v23, v24, v25, v26) else none else none)
  else bif (decide ((((v14.length : Int) + 1) * 8) ≤ 140737488355328)) then bif ((decide ((-9223372036854775808) ≤ (v13 + 1))) && (decide ((v13 + 1) ≤ 9223372036854775807))) then go0 ((v13 + 1), (v14 ++ [[(AV.int v13)]]), v21, v22, v23, v24, v25, v26) else none else none))))
def claim_Outcome_13 (n : Nat) (go0 : claim_Outcome_s0 → Option claim_Outcome_a) (go1 : claim_Outcome_s1 → Option claim_Outcome_a) (v9 : Bool) (v10 : Lv) (v11 v13 : Int) (v14 : Lv) (v21 v22 v23 v24 v25 v26 : Int) : Option claim_Outcome_a :=
  (bif ((decide ((cI v10 v13 0) = 5)) && (decide (v24 = 1))) then (bif (decide ((cI v10 v13 2) = 1)) then (bif (v9 == true) then bif (decide ((((v14.length : Int) + 1) * 8) ≤ 140737488355328)) then bif ((decide ((-9223372036854775808) ≤ (v13 + 1))) && (decide ((v13 + 1) ≤ 9223372036854775807))) then go0 ((v13 + 1), (v14 ++ [[(AV.int v13)]]), v21, v22, v23, v24, v25, v26) else none else none
  else (bif (decide (v11 < (cI v10 v13 1))) then some (v21, v22, v23, 0)
  else bif ((decide ((-9223372036854775808) ≤ (v13 + 1))) && (decide ((v13 + 1) ≤ 9223372036854775807))) then go0 ((v13 + 1), v14, 7, (cI v10 v13 1), (-1), 7, (cI v10 v13 1), (-1)) else none))
  else (bif (decide (v11 < (cI v10 v13 1))) then some (v21, v22, v23, 0)
  else bif ((decide ((-9223372036854775808) ≤ (v13 + 1))) && (decide ((v13 + 1) ≤ 9223372036854775807))) then go0 ((v13 + 1), v14, 7, (cI v10 v13 1), (-1), 7, (cI v10 v13 1), (-1)) else none))
  else claim_Outcome_14 n go0 go1 v9 v10 v11 v13 v14 v21 v22 v23 v24 v25 v26)
def claim_Outcome_12 (n : Nat) (go0 : claim_Outcome_s0 → Option claim_Outcome_a) (go1 : claim_Outcome_s1 → Option claim_Outcome_a) (v9 : Bool) (v10 : Lv) (v11 v13 : Int) (v14 : Lv) (v21 v22 v23 v24 v25 v26 : Int) : Option claim_Outcome_a :=
  (bif ((decide ((cI v10 v13 0) = 4)) && (decide (v24 = 2))) then (bif (decide ((cI v10 v13 2) = 1)) then (bif (v9 == true) then bif (decide ((((v14.length : Int) + 1) * 8) ≤ 140737488355328)) then bif ((decide ((-9223372036854775808) ≤ (v13 + 1))) && (decide ((v13 + 1) ≤ 9223372036854775807))) then go0 ((v13 + 1), (v14 ++ [[(AV.int v13)]]), v21, v22, v23, v24, v25, v26) else none else none
  else (bif (decide (v11 < (cI v10 v13 1))) then some (v21, v22, v23, 0)
  else bif ((decide ((-9223372036854775808) ≤ (v13 + 1))) && (decide ((v13 + 1) ≤ 9223372036854775807))) then go0 ((v13 + 1), v14, 6, (cI v10 v13 1), (-1), 6, (cI v10 v13 1), (-1)) else none))
  else (bif (decide (v11 < (cI v10 v13 1))) then some (v21, v22, v23, 0)
  else bif ((decide ((-9223372036854775808) ≤ (v13 + 1))) && (decide ((v13 + 1) ≤ 9223372036854775807))) then go0 ((v13 + 1), v14, 6, (cI v10 v13 1), (-1), 6, (cI v10 v13 1), (-1)) else none))
  else claim_Outcome_13 n go0 go1 v9 v10 v11 v13 v14 v21 v22 v23 v24 v25 v26)
def claim_Outcome_11 (n : Nat) (go0 : claim_Outcome_s0 → Option claim_Outcome_a) (go1 : claim_Outcome_s1 → Option claim_Outcome_a) (v1 : Int) (v9 : Bool) (v10 : Lv) (v11 v13 : Int) (v14 : Lv) (v21 v22 v23 v24 v25 v26 : Int) : Option claim_Outcome_a :=
  (bif ((decide ((cI v10 v13 0) = 3)) && (decide (v24 = 2))) then (bif (decide ((cI v10 v13 2) = 1)) then (bif (v9 == true) then bif (decide ((((v14.length : Int) + 1) * 8) ≤ 140737488355328)) then bif ((decide ((-9223372036854775808) ≤ (v13 + 1))) && (decide ((v13 + 1) ≤ 9223372036854775807))) then go0 ((v13 + 1), (v14 ++ [[(AV.int v13)]]), v21, v22, v23, v24, v25, v26) else none else none
  else bif ((decide ((-9223372036854775808) ≤ ((cI v10 v13 1) + v1))) && (decide (((cI v10 v13 1) + v1) ≤ 9223372036854775807))) then (bif (decide (v11 < (cI v10 v13 1))) then some (v21, v22, v23, 0)
  else bif ((decide ((-9223372036854775808) ≤ (v13 + 1))) && (decide ((v13 + 1) ≤ 9223372036854775807))) then go0 ((v13 + 1), v14, 3, (cI v10 v13 1), ((cI v10 v13 1) + v1), 3, (cI v10 v13 1), ((cI v10 v13 1) + v1)) else none) else none)
  else bif ((decide ((-9223372036854775808) ≤ ((cI v10 v13 1) + v1))) && (decide (((cI v10 v13 1) + v1) ≤ 9223372036854775807))) then (bif (decide (v11 < (cI v10 v13 1))) then some (v21, v22, v23, 0)
  else bif ((decide ((-9223372036854775808) ≤ (v13 + 1))) && (decide ((v13 + 1) ≤ 9223372036854775807))) then go0 ((v13 + 1), v14, 3, (cI v10 v13 1), ((cI v10 v13 1) + v1), 3, (cI v10 v13 1), ((cI v10 v13 1) + v1)) else none) else none)
  else claim_Outcome_12 n go0 go1 v9 v10 v11 v13 v14 v21 v22 v23 v24 v25 v26)
def claim_Outcome_10 (n : Nat) (go0 : claim_Outcome_s0 → Option claim_Outcome_a) (go1 : claim_Outcome_s1 → Option claim_Outcome_a) (v1 v2 : Int) (v9 : Bool) (v10 : Lv) (v11 v13 : Int) (v14 : Lv) (v21 v22 v23 v24 v25 v26 : Int) : Option claim_Outcome_a :=
  (bif ((decide ((cI v10 v13 0) = 2)) && (decide (v24 = 1))) then (bif (decide ((cI v10 v13 2) = 1)) then (bif (v9 == true) then bif (decide ((((v14.length : Int) + 1) * 8) ≤ 140737488355328)) then bif ((decide ((-9223372036854775808) ≤ (v13 + 1))) && (decide ((v13 + 1) ≤ 9223372036854775807))) then go0 ((v13 + 1), (v14 ++ [[(AV.int v13)]]), v21, v22, v23, v24, v25, v26) else none else none
  else (bif (decide (v11 < (cI v10 v13 1))) then some (v21, v22, v23, 0)
  else bif ((decide ((-9223372036854775808) ≤ (v13 + 1))) && (decide ((v13 + 1) ≤ 9223372036854775807))) then go0 ((v13 + 1), v14, 6, (cI v10 v13 1), (-1), 6, (cI v10 v13 1), (-1)) else none))
  else bif ((decide ((-9223372036854775808) ≤ ((cI v10 v13 1) + v2))) && (decide (((cI v10 v13 1) + v2) ≤ 9223372036854775807))) then (bif (decide (v11 < (cI v10 v13 1))) then some (v21, v22, v23, 0)
  else bif ((decide ((-9223372036854775808) ≤ (v13 + 1))) && (decide ((v13 + 1) ≤ 9223372036854775807))) then go0 ((v13 + 1), v14, 2, (cI v10 v13 1), ((cI v10 v13 1) + v2), 2, (cI v10 v13 1), ((cI v10 v13 1) + v2)) else none) else none)
  else claim_Outcome_11 n go0 go1 v1 v9 v10 v11 v13 v14 v21 v22 v23 v24 v25 v26)
def claim_Outcome_9 (n : Nat) (go0 : claim_Outcome_s0 → Option claim_Outcome_a) (go1 : claim_Outcome_s1 → Option claim_Outcome_a) (v1 v2 : Int) (v9 : Bool) (v10 : Lv) (v11 v13 : Int) (v14 : Lv) (v21 v22 v23 v24 v25 v26 : Int) : Option claim_Outcome_a :=
  (bif ((decide ((cI v10 v13 0) = 1)) && (decide (v24 = 1))) then (bif (decide ((cI v10 v13 2) = 1)) then (bif (v9 == true) then bif (decide ((((v14.length : Int) + 1) * 8) ≤ 140737488355328)) then bif ((decide ((-9223372036854775808) ≤ (v13 + 1))) && (decide ((v13 + 1) ≤ 9223372036854775807))) then go0 ((v13 + 1), (v14 ++ [[(AV.int v13)]]), v21, v22, v23, v24, v25, v26) else none else none
  else bif ((decide ((-9223372036854775808) ≤ ((cI v10 v13 1) + v1))) && (decide (((cI v10 v13 1) + v1) ≤ 9223372036854775807))) then (bif (decide (v11 < (cI v10 v13 1))) then some (v21, v22, v23, 0)
  else bif ((decide ((-9223372036854775808) ≤ (v13 + 1))) && (decide ((v13 + 1) ≤ 9223372036854775807))) then go0 ((v13 + 1), v14, 3, (cI v10 v13 1), ((cI v10 v13 1) + v1), 3, (cI v10 v13 1), ((cI v10 v13 1) + v1)) else none) else none)
  else bif ((decide ((-9223372036854775808) ≤ ((cI v10 v13 1) + v1))) && (decide (((cI v10 v13 1) + v1) ≤ 9223372036854775807))) then (bif (decide (v11 < (cI v10 v13 1))) then some (v21, v22, v23, 0)
  else bif ((decide ((-9223372036854775808) ≤ (v13 + 1))) && (decide ((v13 + 1) ≤ 9223372036854775807))) then go0 ((v13 + 1), v14, 3, (cI v10 v13 1), ((cI v10 v13 1) + v1), 3, (cI v10 v13 1), ((cI v10 v13 1) + v1)) else none) else none)
  else claim_Outcome_10 n go0 go1 v1 v2 v9 v10 v11 v13 v14 v21 v22 v23 v24 v25 v26)
def claim_Outcome_8 (n : Nat) (go0 : claim_Outcome_s0 → Option claim_Outcome_a) (go1 : claim_Outcome_s1 → Option claim_Outcome_a) (v1 v2 v3 : Int) (v9 : Bool) (v10 : Lv) (v11 v13 : Int) (v14 : Lv) (v21 v22 v23 v24 v25 v26 : Int) : Option claim_Outcome_a :=
  (bif (decide (v26 ≤ (cI v10 v13 1))) then (bif (decide (v24 = 1)) then bif ((decide ((-9223372036854775808) ≤ (v26 + v1))) && (decide ((v26 + v1) ≤ 9223372036854775807))) then (bif (decide (v11 < v26)) then some (v21, v22, v23, 0)
  else go1 (3, v26, (v26 + v1), 3, v26, (v26 + v1))) else none
  else (bif (decide (v24 = 2)) then bif ((decide ((-9223372036854775808) ≤ (v26 + v1))) && (decide ((v26 + v1) ≤ 9223372036854775807))) then (bif (decide (v11 < v26)) then some (v21, v22, v23, 0)
  else go1 (3, v26, (v26 + v1), 3, v26, (v26 + v1))) else none
  else (bif (decide (v24 = 3)) then bif ((decide ((-9223372036854775808) ≤ (v26 + v3))) && (decide ((v26 + v3) ≤ 9223372036854775807))) then (bif (decide (v11 < v26)) then some (v21, v22, v23, 0)
  else go1 (4, v26, (v26 + v3), 4, v26, (v26 + v3))) else none
  else (bif (decide (v24 = 4)) then (bif (decide (v11 < v26)) then some (v21, v22, v23, 0)
  else go1 (5, v26, (-1), 5, v26, (-1)))
  else (bif (decide (v11 < v26)) then some (v21, v22, v23, 0)
  else go1 (0, v26, (-1), 0, v26, (-1)))))))
  else claim_Outcome_9 n go0 go1 v1 v2 v9 v10 v11 v13 v14 v21 v22 v23 v24 v25 v26)
abbrev claim_Outcome_20 := @claim_Outcome_14
abbrev claim_Outcome_19 := @claim_Outcome_13
abbrev claim_Outcome_18 := @claim_Outcome_12
abbrev claim_Outcome_17 := @claim_Outcome_11
abbrev claim_Outcome_16 := @claim_Outcome_10
abbrev claim_Outcome_15 := @claim_Outcome_9
def claim_Outcome_7 (n : Nat) (go0 : claim_Outcome_s0 → Option claim_Outcome_a) (go1 : claim_Outcome_s1 → Option claim_Outcome_a) (v1 v2 v3 : Int) (v9 : Bool) (v10 : Lv) (v11 v13 : Int) (v14 : Lv) (v21 v22 v23 v24 v25 v26 : Int) : Option claim_Outcome_a :=
  (bif (decide (0 ≤ v26)) then claim_Outcome_8 n go0 go1 v1 v2 v3 v9 v10 v11 v13 v14 v21 v22 v23 v24 v25 v26
  else claim_Outcome_15 n go0 go1 v1 v2 v9 v10 v11 v13 v14 v21 v22 v23 v24 v25 v26)
def claim_Outcome_21 (n : Nat) (go0 : claim_Outcome_s1 → Option claim_Outcome_a) (v1 v3 v11 v21 v22 v23 v24 v26 : Int) : Option claim_Outcome_a :=
  (bif (decide (0 ≤ v26)) then (bif (decide (v26 ≤ 4611686018427387904)) then (bif (decide (v24 = 1)) then bif ((decide ((-9223372036854775808) ≤ (v26 + v1))) && (decide ((v26 + v1) ≤ 9223372036854775807))) then (bif (decide (v11 < v26)) then some (v21, v22, v23, 0)
  else go0 (3, v26, (v26 + v1), 3, v26, (v26 + v1))) else none
  else (bif (decide (v24 = 2)) then bif ((decide ((-9223372036854775808) ≤ (v26 + v1))) && (decide ((v26 + v1) ≤ 9223372036854775807))) then (bif (decide (v11 < v26)) then some (v21, v22, v23, 0)
  else go0 (3, v26, (v26 + v1), 3, v26, (v26 + v1))) else none
  else (bif (decide (v24 = 3)) then bif ((decide ((-9223372036854775808) ≤ (v26 + v3))) && (decide ((v26 + v3) ≤ 9223372036854775807))) then (bif (decide (v11 < v26)) then some (v21, v22, v23, 0)
  else go0 (4, v26, (v26 + v3), 4, v26, (v26 + v3))) else none
  else (bif (decide (v24 = 4)) then (bif (decide (v11 < v26)) then some (v21, v22, v23, 0)
  else go0 (5, v26, (-1), 5, v26, (-1)))
  else (bif (decide (v11 < v26)) then some (v21, v22, v23, 0)
  else go0 (0, v26, (-1), 0, v26, (-1)))))))
  else some (v21, v22, v23, 0))
  else some (v21, v22, v23, 0))
def claim_Outcome_6 (n : Nat) (go0 : claim_Outcome_s0 → Option claim_Outcome_a) (v1 v2 v3 : Int) (v9 : Bool) (v10 : Lv) (v11 v13 : Int) (v14 : Lv) (v15 v16 v17 v18 v19 v20 : Int) : Option claim_Outcome_a :=
  (bif (decide (v13 < (v10.length : Int))) then bif (decide (0 ≤ v13)) then (iterF (fun go1 s => claim_Outcome_7 n go0 go1 v1 v2 v3 v9 v10 v11 v13 v14 s.1 s.2.1 s.2.2.1 s.2.2.2.1 s.2.2.2.2.1 s.2.2.2.2.2) n ((v15, v16, v17, v18, v19, v20) : claim_Outcome_s1)) else none
  else (iterF (fun go0 s => claim_Outcome_21 n go0 v1 v3 v11 s.1 s.2.1 s.2.2.1 s.2.2.2.1 s.2.2.2.2.2) n ((v15, v16, v17, v18, v19, v20) : claim_Outcome_s1)))
def claim_Outcome_5 (n : Nat) (v0 v1 v2 v3 v8 : Int) (v9 : Bool) (v10 : Lv) (v11 : Int) : Option claim_Outcome_a :=
  (bif (decide (v11 < v8)) then some (0, 0, v8, 0)
  else (iterF (fun go0 s => claim_Outcome_6 n go0 v1 v2 v3 v9 v10 v11 s.1 s.2.1 s.2.2.1 s.2.2.2.1 s.2.2.2.2.1 s.2.2.2.2.2.1 s.2.2.2.2.2.2.1 s.2.2.2.2.2.2.2) n ((0, ([] : Lv), 1, v8, (v8 + v0), 1, v8, (v8 + v0)) : claim_Outcome_s0)))
def claim_Outcome_4 (n : Nat) (v0 v1 v2 v3 v8 : Int) (v9 : Bool) (v10 : Lv) (v11 : Int) : Option claim_Outcome_a :=
  (bif (!(decide (v11 ≤ 20000000))) then some (0, 0, 0, 160)
  else bif ((decide ((-9223372036854775808) ≤ (v8 + v0))) && (decide ((v8 + v0) ≤ 9223372036854775807))) then claim_Outcome_5 n v0 v1 v2 v3 v8 v9 v10 v11 else none)
def claim_Outcome_3 (n : Nat) (v0 v1 v2 v3 v8 : Int) (v9 : Bool) (v10 : Lv) (v11 : Int) : Option claim_Outcome_a :=
  (bif (decide (0 ≤ v11)) then claim_Outcome_4 n v0 v1 v2 v3 v8 v9 v10 v11
  else some (0, 0, 0, 160))
def claim_Outcome_2 (n : Nat) (v0 v1 v2 v3 v8 : Int) (v9 : Bool) (v10 : Lv) (v11 : Int) (v12 : Bool) : Option claim_Outcome_a :=
  (bif (!v12) then some (0, 0, 0, 160)
  else claim_Outcome_3 n v0 v1 v2 v3 v8 v9 v10 v11)
def claim_Outcome_1 (n : Nat) (v0 v1 v2 v3 v4 v5 v6 v7 v8 : Int) (v9 : Bool) (v10 : Lv) (v11 : Int) : Option claim_Outcome_a :=
  (claim_Valid n v0 v1 v2 v3 v4 v5 v6 v7 v8 v9 v10).bind fun y12 =>
  claim_Outcome_2 n v0 v1 v2 v3 v8 v9 v10 v11 y12
def claim_Outcome (n : Nat) (v0 v1 v2 v3 v4 v5 v6 v7 v8 : Int) (v9 : Bool) (v10 : Lv) (v11 : Int) : Option claim_Outcome_a := claim_Outcome_1 n v0 v1 v2 v3 v4 v5 v6 v7 v8 v9 v10 v11
def claim_Outcome_t : FnT := ⟨[(true, [.int, .int, .int, .int]), (true, [.int, .int, .int, .int, .int, .bool]), (false, [(.sl (.cons .int (.cons .int (.cons .int .nil))))]), (false, [.int])], (.tup (.cons (.agg (.cons .i (.cons .i (.cons .i .nil)))) (.cons .i .nil))), fun n (s : Int × Int × Int × Int × Int × Int × Int × Int × Int × Bool × Lv × Int) => claim_Outcome n s.1 s.2.1 s.2.2.1 s.2.2.2.1 s.2.2.2.2.1 s.2.2.2.2.2.1 s.2.2.2.2.2.2.1 s.2.2.2.2.2.2.2.1 s.2.2.2.2.2.2.2.2.1 s.2.2.2.2.2.2.2.2.2.1 s.2.2.2.2.2.2.2.2.2.2.1 s.2.2.2.2.2.2.2.2.2.2.2⟩
theorem claim_Outcome_ok : claim_Outcome_t.ok Try.prog 42 := FnT.ok_of (cfg := ⟨[((71, 5, 32), .inv [(.tmp 24 .int), (.cellrow 12 12 3 (.cons .int .nil)), (.cell 13 0 .int), (.cell 13 1 .int), (.cell 13 2 .int), (.cell 27 0 .int), (.cell 27 1 .int), (.cell 27 2 .int)]), ((73, 1, 42), .inv [(.cell 13 0 .int), (.cell 13 1 .int), (.cell 13 2 .int), (.cell 27 0 .int), (.cell 27 1 .int), (.cell 27 2 .int)]), ((73, 1, 40), .inv [(.cell 13 0 .int), (.cell 13 1 .int), (.cell 13 2 .int), (.cell 27 0 .int), (.cell 27 1 .int), (.cell 27 2 .int)])], consD3, [], mapsD3⟩) (tab := claim_Ends_T) (mt := mtE) pfit claim_Ends_T_ok mtE_ok (fun s fn hf => by rw [Try.func42] at hf; cases hf; kernel_rfl) (fun n s => by kernel_rfl)
def claim_Outcome_T : Tab := (42, claim_Outcome_t) :: claim_Ends_T
theorem claim_Outcome_T_ok : claim_Outcome_T.ok Try.prog := Tab.ok_cons claim_Outcome_ok claim_Ends_T_ok
/-! dialtone/claim.With -/
abbrev claim_With_a := Int × Int
def claim_With_1 (n : Nat) (v0 v1 v2 v3 v4 v5 v6 v7 v8 : Int) (v9 : Bool) (v10 : Lv) (v11 : Int) : Option claim_With_a :=
  (claim_Outcome n v0 v1 v2 v3 v4 v5 v6 v7 v8 v9 v10 v11).bind fun y12 =>
  (bif (!(decide (y12.2.2.2 = 0))) then some (0, y12.2.2.2)
  else (bif (decide (y12.1 = 4)) then some (v6, 0)
  else (bif (decide (y12.1 = 5)) then some (v6, 0)
  else some (v5, 0))))
def claim_With (n : Nat) (v0 v1 v2 v3 v4 v5 v6 v7 v8 : Int) (v9 : Bool) (v10 : Lv) (v11 : Int) : Option claim_With_a := claim_With_1 n v0 v1 v2 v3 v4 v5 v6 v7 v8 v9 v10 v11
def claim_With_t : FnT := ⟨[(true, [.int, .int, .int, .int]), (true, [.int, .int, .int, .int, .int, .bool]), (false, [(.sl (.cons .int (.cons .int (.cons .int .nil))))]), (false, [.int])], (.tup (.cons .i (.cons .i .nil))), fun n (s : Int × Int × Int × Int × Int × Int × Int × Int × Int × Bool × Lv × Int) => claim_With n s.1 s.2.1 s.2.2.1 s.2.2.2.1 s.2.2.2.2.1 s.2.2.2.2.2.1 s.2.2.2.2.2.2.1 s.2.2.2.2.2.2.2.1 s.2.2.2.2.2.2.2.2.1 s.2.2.2.2.2.2.2.2.2.1 s.2.2.2.2.2.2.2.2.2.2.1 s.2.2.2.2.2.2.2.2.2.2.2⟩
theorem claim_With_ok : claim_With_t.ok Try.prog 30 := FnT.ok_of (cfg := ⟨[], consD3, [], mapsD3⟩) (tab := claim_Outcome_T) (mt := mtE) pfit claim_Outcome_T_ok mtE_ok (fun s fn hf => by rw [Try.func30] at hf; cases hf; kernel_rfl) (fun n s => by kernel_rfl)
def claim_With_T : Tab := (30, claim_With_t) :: claim_Outcome_T
theorem claim_With_T_ok : claim_With_T.ok Try.prog := Tab.ok_cons claim_With_ok claim_Outcome_T_ok
/-! dialtone/claim.Timeline -/
abbrev claim_Timeline_a := Lv × Int
abbrev claim_Timeline_s0 := Int × Lv × Lv × Int × Int × Int
abbrev claim_Timeline_s1 := Lv × Int × Int × Int
def claim_Timeline_11 (n : Nat) (go0 : claim_Timeline_s0 → Option claim_Timeline_a) (go1 : claim_Timeline_s1 → Option claim_Timeline_a) (v9 : Bool) (v10 : Lv) (v12 : Int) (v13 v18 : Lv) (v19 v20 v21 : Int) : Option claim_Timeline_a :=
  (bif ((decide ((cI v10 v12 0) = 5)) && (decide (v19 = 2))) then (bif (decide ((cI v10 v12 2) = 1)) then (bif (v9 == true) then bif (decide ((((v13.length : Int) + 1) * 8) ≤ 140737488355328)) then bif ((decide ((-9223372036854775808) ≤ (v12 + 1))) && (decide ((v12 + 1) ≤ 9223372036854775807))) then go0 ((v12 + 1), (v13 ++ [[(AV.int v12)]]), v18, v19, v20, v21) else none else none
  else bif (decide ((((v18.length : Int) + 1) * 24) ≤ 140737488355328)) then bif ((decide ((-9223372036854775808) ≤ (v12 + 1))) && (decide ((v12 + 1) ≤ 9223372036854775807))) then go0 ((v12 + 1), v13, (v18 ++ [[(AV.int 7), (AV.int (cI v10 v12 1)), (AV.int (-1))]]), 7, (cI v10 v12 1), (-1)) else none else none)
  else bif (decide ((((v18.length : Int) + 1) * 24) ≤ 140737488355328)) then bif ((decide ((-9223372036854775808) ≤ (v12 + 1))) && (decide ((v12 + 1) ≤ 9223372036854775807))) then go0 ((v12 + 1), v13, (v18 ++ [[(AV.int 7), (AV.int (cI v10 v12 1)), (AV.int (-1))]]), 7, (cI v10 v12 1), (-1)) else none else none)
  else (bif ((decide ((cI v10 v12 0) = 5)) && (decide (v19 = 3))) then (bif (decide ((cI v10 v12 2) = 1)) then (bif (v9 == true) then bif (decide ((((v13.length : Int) + 1) * 8) ≤ 140737488355328)) then bif ((decide ((-9223372036854775808) ≤ (v12 + 1))) && (decide ((v12 + 1) ≤ 9223372036854775807))) then go0 ((v12 + 1), (v13 ++ [[(AV.int v12)]]), v18, v19, v20, v21) else none else none
  else bif (decide ((((v18.length : Int) + 1) * 24) ≤ 140737488355328)) then bif ((decide ((-9223372036854775808) ≤ (v12 + 1))) && (decide ((v12 + 1) ≤ 9223372036854775807))) then go0 ((v12 + 1), v13, (v18 ++ [[(AV.int 7), (AV.int (cI v10 v12 1)), (AV.int (-1))]]), 7, (cI v10 v12 1), (-1)) else none else none)
  else bif (decide ((((v18.length : Int) + 1) * 24) ≤ 140737488355328)) then bif ((decide ((-9223372036854775808) ≤ (v12 + 1))) && (decide ((v12 + 1) ≤ 9223372036854775807))) then go0 ((v12 + 1), v13, (v18 ++ [[(AV.int 7), (AV.int (cI v10 v12 1)), (AV.int (-1))]]), 7, (cI v10 v12 1), (-1)) else none else none)
  else (bif ((decide ((cI v10 v12 0) = 6)) && (decide (v19 = 4))) then (bif (decide ((cI v10 v12 2) = 1)) then (bif (v9 == true) then bif (decide ((((v13.length : Int) + 1) * 8) ≤ 140737488355328)) then bif ((decide ((-9223372036854775808) ≤ (v12 + 1))) && (decide ((v12 + 1) ≤ 9223372036854775807))) then go0 ((v12 + 1), (v13 ++ [[(AV.int v12)]]), v18, v19, v20, v21) else none else none
  else bif (decide ((((v18.length : Int) + 1) * 24) ≤ 140737488355328)) then bif ((decide ((-9223372036854775808) ≤ (v12 + 1))) && (decide ((v12 + 1) ≤ 9223372036854775807))) then go0 ((v12 + 1), v13, (v18 ++ [[(AV.int 8), (AV.int (cI v10 v12 1)), (AV.int (-1))]]), 8, (cI v10 v12 1), (-1)) else none else none)
  else bif (decide ((((v18.length : Int) + 1) * 24) ≤ 140737488355328)) then bif ((decide ((-9223372036854775808) ≤ (v12 + 1))) && (decide ((v12 + 1) ≤ 9223372036854775807))) then go0 ((v12 + 1), v13, (v18 ++ [[(AV.int 8), (AV.int (cI v10 v12 1)), (AV.int (-1))]]), 8, (cI v10 v12 1), (-1)) else none else none)
  else (bif (decide ((cI v10 v12 2) = 1)) then (bif (decide ((cI v10 v12 0) = 2)) then bif (decide ((((v13.length : Int) + 1) * 8) ≤ 140737488355328)) then bif ((decide ((-9223372036854775808) ≤ (v12 + 1))) && (decide ((v12 + 1) ≤ 9223372036854775807))) then go0 ((v12 + 1), (v13 ++ [[(AV.int v12)]]), v18, v19, v20, v21) else none else none
  else bif (decide ((((v13.length : Int) + 1) * 8) ≤ 140737488355328)) then bif ((decide ((-9223372036854775808) ≤ (v12 + 1))) && (decide ((v12 + 1) ≤ 9223372036854775807))) then go0 ((v12 + 1), (v13 ++ [[(AV.int v12)]]), v18, v19, v20, v21) else none else none)
  else bif (decide ((((v13.length : Int) + 1) * 8) ≤ 140737488355328)) then bif ((decide ((-9223372036854775808) ≤ (v12 + 1))) && (decide ((v12 + 1) ≤ 9223372036854775807))) then go0 ((v12 + 1), (v13 ++ [[(AV.int v12)]]), v18, v19, v20, v21) else none else none))))
def claim_Timeline_10 (n : Nat) (go0 : claim_Timeline_s0 → Option claim_Timeline_a) (go1 : claim_Timeline_s1 → Option claim_Timeline_a) (v9 : Bool) (v10 : Lv) (v12 : Int) (v13 v18 : Lv) (v19 v20 v21 : Int) : Option claim_Timeline_a :=
  (bif ((decide ((cI v10 v12 0) = 5)) && (decide (v19 = 1))) then (bif (decide ((cI v10 v12 2) = 1)) then (bif (v9 == true) then bif (decide ((((v13.length : Int) + 1) * 8) ≤ 140737488355328)) then bif ((decide ((-9223372036854775808) ≤ (v12 + 1))) && (decide ((v12 + 1) ≤ 9223372036854775807))) then go0 ((v12 + 1), (v13 ++ [[(AV.int v12)]]), v18, v19, v20, v21) else none else none
  else bif (decide ((((v18.length : Int) + 1) * 24) ≤ 140737488355328)) then bif ((decide ((-9223372036854775808) ≤ (v12 + 1))) && (decide ((v12 + 1) ≤ 9223372036854775807))) then go0 ((v12 + 1), v13, (v18 ++ [[(AV.int 7), (AV.int (cI v10 v12 1)), (AV.int (-1))]]), 7, (cI v10 v12 1), (-1)) else none else none)
  else bif (decide ((((v18.length : Int) + 1) * 24) ≤ 140737488355328)) then bif ((decide ((-9223372036854775808) ≤ (v12 + 1))) && (decide ((v12 + 1) ≤ 9223372036854775807))) then go0 ((v12 + 1), v13, (v18 ++ [[(AV.int 7), (AV.int (cI v10 v12 1)), (AV.int (-1))]]), 7, (cI v10 v12 1), (-1)) else none else none)
  else claim_Timeline_11 n go0 go1 v9 v10 v12 v13 v18 v19 v20 v21)
def claim_Timeline_9 (n : Nat) (go0 : claim_Timeline_s0 → Option claim_Timeline_a) (go1 : claim_Timeline_s1 → Option claim_Timeline_a) (v9 : Bool) (v10 : Lv) (v12 : Int) (v13 v18 : Lv) (v19 v20 v21 : Int) : Option claim_Timeline_a :=
  (bif ((decide ((cI v10 v12 0) = 4)) && (decide (v19 = 2))) then (bif (decide ((cI v10 v12 2) = 1)) then (bif (v9 == true) then bif (decide ((((v13.length : Int) + 1) * 8) ≤ 140737488355328)) then bif ((decide ((-9223372036854775808) ≤ (v12 + 1))) && (decide ((v12 + 1) ≤ 9223372036854775807))) then go0 ((v12 + 1), (v13 ++ [[(AV.int v12)]]), v18, v19, v20, v21) else none else none
  else bif (decide ((((v18.length : Int) + 1) * 24) ≤ 140737488355328)) then bif ((decide ((-9223372036854775808) ≤ (v12 + 1))) && (decide ((v12 + 1) ≤ 9223372036854775807))) then go0 ((v12 + 1), v13, (v18 ++ [[(AV.int 6), (AV.int (cI v10 v12 1)), (AV.int (-1))]]), 6, (cI v10 v12 1), (-1)) else none else none)
  else bif (decide ((((v18.length : Int) + 1) * 24) ≤ 140737488355328)) then bif ((decide ((-9223372036854775808) ≤ (v12 + 1))) && (decide ((v12 + 1) ≤ 9223372036854775807))) then go0 ((v12 + 1), v13, (v18 ++ [[(AV.int 6), (AV.int (cI v10 v12 1)), (AV.int (-1))]]), 6, (cI v10 v12 1), (-1)) else none else none)
  else claim_Timeline_10 n go0 go1 v9 v10 v12 v13 v18 v19 v20 v21)
def claim_Timeline_8 (n : Nat) (go0 : claim_Timeline_s0 → Option claim_Timeline_a) (go1 : claim_Timeline_s1 → Option claim_Timeline_a) (v1 : Int) (v9 : Bool) (v10 : Lv) (v12 : Int) (v13 v18 : Lv) (v19 v20 v21 : Int) : Option claim_Timeline_a :=
  (bif ((decide ((cI v10 v12 0) = 3)) && (decide (v19 = 2))) then (bif (decide ((cI v10 v12 2) = 1)) then (bif (v9 == true) then bif (decide ((((v13.length : Int) + 1) * 8) ≤ 140737488355328)) then bif ((decide ((-9223372036854775808) ≤ (v12 + 1))) && (decide ((v12 + 1) ≤ 9223372036854775807))) then go0 ((v12 + 1), (v13 ++ [[(AV.int v12)]]), v18, v19, v20, v21) else none else none
  else bif ((decide ((-9223372036854775808) ≤ ((cI v10 v12 1) + v1))) && (decide (((cI v10 v12 1) + v1) ≤ 9223372036854775807))) then bif (decide ((((v18.length : Int) + 1) * 24) ≤ 140737488355328)) then bif ((decide ((-9223372036854775808) ≤ (v12 + 1))) && (decide ((v12 + 1) ≤ 9223372036854775807))) then go0 ((v12 + 1), v13, (v18 ++ [[(AV.int 3), (AV.int (cI v10 v12 1)), (AV.int ((cI v10 v12 1) + v1))]]), 3, (cI v10 v12 1), ((cI v10 v12 1) + v1)) else none else none else none)
  else bif ((decide ((-9223372036854775808) ≤ ((cI v10 v12 1) + v1))) && (decide (((cI v10 v12 1) + v1) ≤ 9223372036854775807))) then bif (decide ((((v18.length : Int) + 1) * 24) ≤ 140737488355328)) then bif ((decide ((-9223372036854775808) ≤ (v12 + 1))) && (decide ((v12 + 1) ≤ 9223372036854775807))) then go0 ((v12 + 1), v13, (v18 ++ [[(AV.int 3), (AV.int (cI v10 v12 1)), (AV.int ((cI v10 v12 1) + v1))]]), 3, (cI v10 v12 1), ((cI v10 v12 1) + v1)) else none else none else none)
  else claim_Timeline_9 n go0 go1 v9 v10 v12 v13 v18 v19 v20 v21)
def claim_Timeline_7 (n : Nat) (go0 : claim_Timeline_s0 → Option claim_Timeline_a) (go1 : claim_Timeline_s1 → Option claim_Timeline_a) (v1 v2 : Int) (v9 : Bool) (v10 : Lv) (v12 : Int) (v13 v18 : Lv) (v19 v20 v21 : Int) : Option claim_Timeline_a :=
  (bif ((decide ((cI v10 v12 0) = 2)) && (decide (v19 = 1))) then (bif (decide ((cI v10 v12 2) = 1)) then (bif (v9 == true) then bif (decide ((((v13.length : Int) + 1) * 8) ≤ 140737488355328)) then bif ((decide ((-9223372036854775808) ≤ (v12 + 1))) && (decide ((v12 + 1) ≤ 9223372036854775807))) then go0 ((v12 + 1), (v13 ++ [[(AV.int v12)]]), v18, v19, v20, v21) else none else none
  else bif (decide ((((v18.length : Int) + 1) * 24) ≤ 140737488355328)) then bif ((decide ((-9223372036854775808) ≤ (v12 + 1))) && (decide ((v12 + 1) ≤ 9223372036854775807))) then go0 ((v12 + 1), v13, (v18 ++ [[(AV.int 6), (AV.int (cI v10 v12 1)), (AV.int (-1))]]), 6, (cI v10 v12 1), (-1)) else none else none)
  else bif ((decide ((-9223372036854775808) ≤ ((cI v10 v12 1) + v2))) && (decide (((cI v10 v12 1) + v2) ≤ 9223372036854775807))) then bif (decide ((((v18.length : Int) + 1) * 24) ≤ 140737488355328)) then bif ((decide ((-9223372036854775808) ≤ (v12 + 1))) && (decide ((v12 + 1) ≤ 9223372036854775807))) then go0 ((v12 + 1), v13, (v18 ++ [[(AV.int 2), (AV.int (cI v10 v12 1)), (AV.int ((cI v10 v12 1) + v2))]]), 2, (cI v10 v12 1), ((cI v10 v12 1) + v2)) else none else none else none)
  else claim_Timeline_8 n go0 go1 v1 v9 v10 v12 v13 v18 v19 v20 v21)
def claim_Timeline_6 (n : Nat) (go0 : claim_Timeline_s0 → Option claim_Timeline_a) (go1 : claim_Timeline_s1 → Option claim_Timeline_a) (v1 v2 : Int) (v9 : Bool) (v10 : Lv) (v12 : Int) (v13 v18 : Lv) (v19 v20 v21 : Int) : Option claim_Timeline_a :=
  (bif ((decide ((cI v10 v12 0) = 1)) && (decide (v19 = 1))) then (bif (decide ((cI v10 v12 2) = 1)) then (bif (v9 == true) then bif (decide ((((v13.length : Int) + 1) * 8) ≤ 140737488355328)) then bif ((decide ((-9223372036854775808) ≤ (v12 + 1))) && (decide ((v12 + 1) ≤ 9223372036854775807))) then go0 ((v12 + 1), (v13 ++ [[(AV.int v12)]]), v18, v19, v20, v21) else none else none
  else bif ((decide ((-9223372036854775808) ≤ ((cI v10 v12 1) + v1))) && (decide (((cI v10 v12 1) + v1) ≤ 9223372036854775807))) then bif (decide ((((v18.length : Int) + 1) * 24) ≤ 140737488355328)) then bif ((decide ((-9223372036854775808) ≤ (v12 + 1))) && (decide ((v12 + 1) ≤ 9223372036854775807))) then go0 ((v12 + 1), v13, (v18 ++ [[(AV.int 3), (AV.int (cI v10 v12 1)), (AV.int ((cI v10 v12 1) + v1))]]), 3, (cI v10 v12 1), ((cI v10 v12 1) + v1)) else none else none else none)
  else bif ((decide ((-9223372036854775808) ≤ ((cI v10 v12 1) + v1))) && (decide (((cI v10 v12 1) + v1) ≤ 9223372036854775807))) then bif (decide ((((v18.length : Int) + 1) * 24) ≤ 140737488355328)) then bif ((decide ((-9223372036854775808) ≤ (v12 + 1))) && (decide ((v12 + 1) ≤ 9223372036854775807))) then go0 ((v12 + 1), v13, (v18 ++ [[(AV.int 3), (AV.int (cI v10 v12 1)), (AV.int ((cI v10 v12 1) + v1))]]), 3, (cI v10 v12 1), ((cI v10 v12 1) + v1)) else none else none else none)
  else claim_Timeline_7 n go0 go1 v1 v2 v9 v10 v12 v13 v18 v19 v20 v21)
def claim_Timeline_5 (n : Nat) (go0 : claim_Timeline_s0 → Option claim_Timeline_a) (go1 : claim_Timeline_s1 → Option claim_Timeline_a) (v1 v2 v3 : Int) (v9 : Bool) (v10 : Lv) (v12 : Int) (v13 v18 : Lv) (v19 v20 v21 : Int) : Option claim_Timeline_a :=
  (bif (decide (v21 ≤ (cI v10 v12 1))) then (bif (decide (v19 = 1)) then bif ((decide ((-9223372036854775808) ≤ (v21 + v1))) && (decide ((v21 + v1) ≤ 9223372036854775807))) then bif (decide ((((v18.length : Int) + 1) * 24) ≤ 140737488355328)) then go1 ((v18 ++ [[(AV.int 3), (AV.int v21), (AV.int (v21 + v1))]]), 3, v21, (v21 + v1)) else none else none
  else (bif (decide (v19 = 2)) then bif ((decide ((-9223372036854775808) ≤ (v21 + v1))) && (decide ((v21 + v1) ≤ 9223372036854775807))) then bif (decide ((((v18.length : Int) + 1) * 24) ≤ 140737488355328)) then go1 ((v18 ++ [[(AV.int 3), (AV.int v21), (AV.int (v21 + v1))]]), 3, v21, (v21 + v1)) else none else none
  else (bif (decide (v19 = 3)) then bif ((decide ((-9223372036854775808) ≤ (v21 + v3))) && (decide ((v21 + v3) ≤ 9223372036854775807))) then bif (decide ((((v18.length : Int) + 1) * 24) ≤ 140737488355328)) then go1 ((v18 ++ [[(AV.int 4), (AV.int v21), (AV.int (v21 + v3))]]), 4, v21, (v21 + v3)) else none else none
  else (bif (decide (v19 = 4)) then bif (decide ((((v18.length : Int) + 1) * 24) ≤ 140737488355328)) then go1 ((v18 ++ [[(AV.int 5), (AV.int v21), (AV.int (-1))]]), 5, v21, (-1)) else none
  else bif (decide ((((v18.length : Int) + 1) * 24) ≤ 140737488355328)) then go1 ((v18 ++ [[(AV.int 0), (AV.int v21), (AV.int (-1))]]), 0, v21, (-1)) else none))))
  else claim_Timeline_6 n go0 go1 v1 v2 v9 v10 v12 v13 v18 v19 v20 v21)
abbrev claim_Timeline_17 := @claim_Timeline_11
abbrev claim_Timeline_16 := @claim_Timeline_10
abbrev claim_Timeline_15 := @claim_Timeline_9
abbrev claim_Timeline_14 := @claim_Timeline_8
abbrev claim_Timeline_13 := @claim_Timeline_7
abbrev claim_Timeline_12 := @claim_Timeline_6
def claim_Timeline_4 (n : Nat) (go0 : claim_Timeline_s0 → Option claim_Timeline_a) (go1 : claim_Timeline_s1 → Option claim_Timeline_a) (v1 v2 v3 : Int) (v9 : Bool) (v10 : Lv) (v12 : Int) (v13 v18 : Lv) (v19 v20 v21 : Int) : Option claim_Timeline_a :=
  (bif (decide (0 ≤ v21)) then claim_Timeline_5 n go0 go1 v1 v2 v3 v9 v10 v12 v13 v18 v19 v20 v21
  else claim_Timeline_12 n go0 go1 v1 v2 v9 v10 v12 v13 v18 v19 v20 v21)
def claim_Timeline_18 (n : Nat) (go0 : claim_Timeline_s1 → Option claim_Timeline_a) (v1 v3 : Int) (v18 : Lv) (v19 v21 : Int) : Option claim_Timeline_a :=
  (bif (decide (0 ≤ v21)) then (bif (decide (v21 ≤ 4611686018427387904)) then (bif (decide (v19 = 1)) then bif ((decide ((-9223372036854775808) ≤ (v21 + v1))) && (decide ((v21 + v1) ≤ 9223372036854775807))) then bif (decide ((((v18.length : Int) + 1) * 24) ≤ 140737488355328)) then go0 ((v18 ++ [[(AV.int 3), (AV.int v21), (AV.int (v21 + v1))]]), 3, v21, (v21 + v1)) else none else none
  else (bif (decide (v19 = 2)) then bif ((decide ((-9223372036854775808) ≤ (v21 + v1))) && (decide ((v21 + v1) ≤ 9223372036854775807))) then bif (decide ((((v18.length : Int) + 1) * 24) ≤ 140737488355328)) then go0 ((v18 ++ [[(AV.int 3), (AV.int v21), (AV.int (v21 + v1))]]), 3, v21, (v21 + v1)) else none else none
  else (bif (decide (v19 = 3)) then bif ((decide ((-9223372036854775808) ≤ (v21 + v3))) && (decide ((v21 + v3) ≤ 9223372036854775807))) then bif (decide ((((v18.length : Int) + 1) * 24) ≤ 140737488355328)) then go0 ((v18 ++ [[(AV.int 4), (AV.int v21), (AV.int (v21 + v3))]]), 4, v21, (v21 + v3)) else none else none
  else (bif (decide (v19 = 4)) then bif (decide ((((v18.length : Int) + 1) * 24) ≤ 140737488355328)) then go0 ((v18 ++ [[(AV.int 5), (AV.int v21), (AV.int (-1))]]), 5, v21, (-1)) else none
  else bif (decide ((((v18.length : Int) + 1) * 24) ≤ 140737488355328)) then go0 ((v18 ++ [[(AV.int 0), (AV.int v21), (AV.int (-1))]]), 0, v21, (-1)) else none))))
  else some (v18, 0))
  else some (v18, 0))
def claim_Timeline_3 (n : Nat) (go0 : claim_Timeline_s0 → Option claim_Timeline_a) (v1 v2 v3 : Int) (v9 : Bool) (v10 : Lv) (v12 : Int) (v13 v14 : Lv) (v15 v16 v17 : Int) : Option claim_Timeline_a :=
  (bif (decide (v12 < (v10.length : Int))) then bif (decide (0 ≤ v12)) then (iterF (fun go1 s => claim_Timeline_4 n go0 go1 v1 v2 v3 v9 v10 v12 v13 s.1 s.2.1 s.2.2.1 s.2.2.2) n ((v14, v15, v16, v17) : claim_Timeline_s1)) else none
  else (iterF (fun go0 s => claim_Timeline_18 n go0 v1 v3 s.1 s.2.1 s.2.2.2) n ((v14, v15, v16, v17) : claim_Timeline_s1)))
def claim_Timeline_2 (n : Nat) (v0 v1 v2 v3 v8 : Int) (v9 : Bool) (v10 : Lv) (v11 : Bool) : Option claim_Timeline_a :=
  (bif (!v11) then some (([] : Lv), 160)
  else bif ((decide ((-9223372036854775808) ≤ (v8 + v0))) && (decide ((v8 + v0) ≤ 9223372036854775807))) then (iterF (fun go0 s => claim_Timeline_3 n go0 v1 v2 v3 v9 v10 s.1 s.2.1 s.2.2.1 s.2.2.2.1 s.2.2.2.2.1 s.2.2.2.2.2) n ((0, ([] : Lv), (([] : Lv) ++ [[(AV.int 1), (AV.int v8), (AV.int (v8 + v0))]]), 1, v8, (v8 + v0)) : claim_Timeline_s0)) else none)
def claim_Timeline_1 (n : Nat) (v0 v1 v2 v3 v4 v5 v6 v7 v8 : Int) (v9 : Bool) (v10 : Lv) : Option claim_Timeline_a :=
  (claim_Valid n v0 v1 v2 v3 v4 v5 v6 v7 v8 v9 v10).bind fun y11 =>
  claim_Timeline_2 n v0 v1 v2 v3 v8 v9 v10 y11
def claim_Timeline (n : Nat) (v0 v1 v2 v3 v4 v5 v6 v7 v8 : Int) (v9 : Bool) (v10 : Lv) : Option claim_Timeline_a := claim_Timeline_1 n v0 v1 v2 v3 v4 v5 v6 v7 v8 v9 v10
def claim_Timeline_t : FnT := ⟨[(true, [.int, .int, .int, .int]), (true, [.int, .int, .int, .int, .int, .bool]), (false, [(.sl (.cons .int (.cons .int (.cons .int .nil))))])], (.tup (.cons (.row 69 (.cons .int (.cons .int (.cons .int .nil)))) (.cons .i .nil))), fun n (s : Int × Int × Int × Int × Int × Int × Int × Int × Int × Bool × Lv) => claim_Timeline n s.1 s.2.1 s.2.2.1 s.2.2.2.1 s.2.2.2.2.1 s.2.2.2.2.2.1 s.2.2.2.2.2.2.1 s.2.2.2.2.2.2.2.1 s.2.2.2.2.2.2.2.2.1 s.2.2.2.2.2.2.2.2.2.1 s.2.2.2.2.2.2.2.2.2.2⟩
theorem claim_Timeline_ok : claim_Timeline_t.ok Try.prog 23 := FnT.ok_of (cfg := ⟨[((71, 5, 31), .inv [(.tmp 24 .int), (.cellrow 10 12 3 (.cons .int .nil)), (.cellrow 13 0 69 (.cons .int (.cons .int (.cons .int .nil)))), (.cell 24 0 .int), (.cell 24 1 .int), (.cell 24 2 .int)]), ((73, 1, 39), .inv [(.cellrow 13 0 69 (.cons .int (.cons .int (.cons .int .nil)))), (.cell 24 0 .int), (.cell 24 1 .int), (.cell 24 2 .int)]), ((73, 1, 37), .inv [(.cellrow 13 0 69 (.cons .int (.cons .int (.cons .int .nil)))), (.cell 24 0 .int), (.cell 24 1 .int), (.cell 24 2 .int)])], consD3, [], mapsD3⟩) (tab := claim_With_T) (mt := mtE) pfit claim_With_T_ok mtE_ok (fun s fn hf => by rw [Try.func23] at hf; cases hf; kernel_rfl) (fun n s => by kernel_rfl)
def claim_Timeline_T : Tab := (23, claim_Timeline_t) :: claim_With_T
theorem claim_Timeline_T_ok : claim_Timeline_T.ok Try.prog := Tab.ok_cons claim_Timeline_ok claim_With_T_ok
end
end Go.Proofs.Ytjllgiddmeiaoaa
