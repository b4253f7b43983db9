/-
  Plain functions for functions of the program, each with its contract (printed by decomp.py).
-/
import Derived.Test.YtjhakonpnopcnaaSxP
import Derived.Test.YtjhakonpnopcnaaSx25
import Derived.Test.YtjhakonpnopcnaaLS
set_option linter.unusedSimpArgs false
set_option linter.unusedVariables false
set_option maxRecDepth 100000
namespace Go.Proofs.Ytjhakonpnopcnaa
open Go Go.Sx
noncomputable section
def consE3 : List Nat := [4, 5, 6, 7, 8, 9, 10, 11, 12, 13, 14, 15, 16, 17, 18, 19, 20, 21, 22, 23, 24, 25, 26, 31, 32, 35, 36, 40, 42, 1000006, 1000007]
/-! dialtone/dialtonelaw14.LifeMatchesReference -/
abbrev law14_LifeMatchesReference_a := Bool
abbrev law14_LifeMatchesReference_s0 := Int
abbrev law14_LifeMatchesReference_s1 := Int × Int × Int × Int × Int × Int × Int × Int × Int × Int × Int
def law14_LifeMatchesReference_12 (n : Nat) (go0 : law14_LifeMatchesReference_s0 → Option law14_LifeMatchesReference_a) (go1 : law14_LifeMatchesReference_s1 → Option law14_LifeMatchesReference_a) (go2 : law14_LifeMatchesReference_s0 → Option law14_LifeMatchesReference_a) (go3 : law14_LifeMatchesReference_s0 → Option law14_LifeMatchesReference_a) (v9 v10 v11 : Int) (v13 v14 v15 : Lv) (v16 v36 v39 v61 v62 v64 v65 v66 v67 v68 : Int) : Option law14_LifeMatchesReference_a :=
  (bif (decide (v68 < 3)) then bif (decide (0 ≤ v68)) then (life_Fate n (cL (((([] : Lv) ++ [[(AV.sl (.cons .int (.cons .int (.cons .int .nil))) v13)]]) ++ [[(AV.sl (.cons .int (.cons .int (.cons .int .nil))) v14)]]) ++ [[(AV.sl (.cons .int (.cons .int (.cons .int .nil))) v15)]]) v16 0) (cI (((([] : Lv) ++ [[(AV.int v10), (AV.int v11)]]) ++ [[(AV.int v61), (AV.int v62)]]) ++ [[(AV.int v64), (AV.int v65)]]) v66 0) (cI (((([] : Lv) ++ [[(AV.int v10), (AV.int v11)]]) ++ [[(AV.int v61), (AV.int v62)]]) ++ [[(AV.int v64), (AV.int v65)]]) v66 1) (cI (((([] : Lv) ++ [[(AV.int v9)]]) ++ [[(AV.int v67)]]) ++ [[(AV.int (cI ((([] : Lv) ++ [[(AV.int v9)]]) ++ [[(AV.int v36)]]) v39 0))]]) v68 0)).bind fun y69 =>
  (ref14_Fate n (cL (((([] : Lv) ++ [[(AV.sl (.cons .int (.cons .int (.cons .int .nil))) v13)]]) ++ [[(AV.sl (.cons .int (.cons .int (.cons .int .nil))) v14)]]) ++ [[(AV.sl (.cons .int (.cons .int (.cons .int .nil))) v15)]]) v16 0) (cI (((([] : Lv) ++ [[(AV.int v10), (AV.int v11)]]) ++ [[(AV.int v61), (AV.int v62)]]) ++ [[(AV.int v64), (AV.int v65)]]) v66 0) (cI (((([] : Lv) ++ [[(AV.int v10), (AV.int v11)]]) ++ [[(AV.int v61), (AV.int v62)]]) ++ [[(AV.int v64), (AV.int v65)]]) v66 1) (cI (((([] : Lv) ++ [[(AV.int v9)]]) ++ [[(AV.int v67)]]) ++ [[(AV.int (cI ((([] : Lv) ++ [[(AV.int v9)]]) ++ [[(AV.int v36)]]) v39 0))]]) v68 0)).bind fun y72 =>
  (bif (!(decide (y69.1 = y72.1))) then some false
  else (bif (!(decide (y69.2.1 = y72.2.1))) then some false
  else (bif (!(decide (y69.2.2 = y72.2.2))) then some false
  else bif ((decide ((-9223372036854775808) ≤ (v68 + 1))) && (decide ((v68 + 1) ≤ 9223372036854775807))) then go3 (v68 + 1) else none))) else none
  else bif ((decide ((-9223372036854775808) ≤ (v66 + 1))) && (decide ((v66 + 1) ≤ 9223372036854775807))) then go2 (v66 + 1) else none)
def law14_LifeMatchesReference_11 (n : Nat) (go0 : law14_LifeMatchesReference_s0 → Option law14_LifeMatchesReference_a) (go1 : law14_LifeMatchesReference_s1 → Option law14_LifeMatchesReference_a) (go2 : law14_LifeMatchesReference_s0 → Option law14_LifeMatchesReference_a) (v9 v10 v11 : Int) (v13 v14 v15 : Lv) (v16 v36 v39 v48 v49 v50 v51 v52 v53 v54 v55 v56 v57 v61 v62 v64 v65 v66 : Int) : Option law14_LifeMatchesReference_a :=
  (bif (decide (v66 < 3)) then bif (decide (0 ≤ v66)) then bif ((decide ((-9223372036854775808) ≤ (Int.tdiv v9 7))) && (decide ((Int.tdiv v9 7) ≤ 9223372036854775807))) then (ref14_Time n v13 (Int.tdiv v9 7)).bind fun y67 =>
  (iterF (fun go3 s => law14_LifeMatchesReference_12 n go0 go1 go2 go3 v9 v10 v11 v13 v14 v15 v16 v36 v39 v61 v62 v64 v65 v66 y67 s) n (0 : law14_LifeMatchesReference_s0)) else none else none
  else bif ((decide ((-9223372036854775808) ≤ (v39 + 1))) && (decide ((v39 + 1) ≤ 9223372036854775807))) then go1 (v52, v57, (v39 + 1), v48, v49, v50, v51, v53, v54, v55, v56) else none)
def law14_LifeMatchesReference_13 (n : Nat) (go0 : law14_LifeMatchesReference_s0 → Option law14_LifeMatchesReference_a) (go1 : law14_LifeMatchesReference_s1 → Option law14_LifeMatchesReference_a) (v5 v6 v7 v8 : Int) (v13 v14 v15 : Lv) (v16 v50 : Int) : Option law14_LifeMatchesReference_a :=
  (bif (decide (v50 < ((cL (((([] : Lv) ++ [[(AV.sl (.cons .int (.cons .int (.cons .int .nil))) v13)]]) ++ [[(AV.sl (.cons .int (.cons .int (.cons .int .nil))) v14)]]) ++ [[(AV.sl (.cons .int (.cons .int (.cons .int .nil))) v15)]]) v16 0).length : Int))) then bif (decide (0 ≤ v50)) then (life_Step n v5 v6 v7 v8 (cI (cL (((([] : Lv) ++ [[(AV.sl (.cons .int (.cons .int (.cons .int .nil))) v13)]]) ++ [[(AV.sl (.cons .int (.cons .int (.cons .int .nil))) v14)]]) ++ [[(AV.sl (.cons .int (.cons .int (.cons .int .nil))) v15)]]) v16 0) v50 0) (cI (cL (((([] : Lv) ++ [[(AV.sl (.cons .int (.cons .int (.cons .int .nil))) v13)]]) ++ [[(AV.sl (.cons .int (.cons .int (.cons .int .nil))) v14)]]) ++ [[(AV.sl (.cons .int (.cons .int (.cons .int .nil))) v15)]]) v16 0) v50 1) (cI (cL (((([] : Lv) ++ [[(AV.sl (.cons .int (.cons .int (.cons .int .nil))) v13)]]) ++ [[(AV.sl (.cons .int (.cons .int (.cons .int .nil))) v14)]]) ++ [[(AV.sl (.cons .int (.cons .int (.cons .int .nil))) v15)]]) v16 0) v50 2)).bind fun y59 =>
  (ref14_Step n v5 v6 v7 v8 (cI (cL (((([] : Lv) ++ [[(AV.sl (.cons .int (.cons .int (.cons .int .nil))) v13)]]) ++ [[(AV.sl (.cons .int (.cons .int (.cons .int .nil))) v14)]]) ++ [[(AV.sl (.cons .int (.cons .int (.cons .int .nil))) v15)]]) v16 0) v50 0) (cI (cL (((([] : Lv) ++ [[(AV.sl (.cons .int (.cons .int (.cons .int .nil))) v13)]]) ++ [[(AV.sl (.cons .int (.cons .int (.cons .int .nil))) v14)]]) ++ [[(AV.sl (.cons .int (.cons .int (.cons .int .nil))) v15)]]) v16 0) v50 1) (cI (cL (((([] : Lv) ++ [[(AV.sl (.cons .int (.cons .int (.cons .int .nil))) v13)]]) ++ [[(AV.sl (.cons .int (.cons .int (.cons .int .nil))) v14)]]) ++ [[(AV.sl (.cons .int (.cons .int (.cons .int .nil))) v15)]]) v16 0) v50 2)).bind fun y64 =>
  (bif (!((decide (y59.1 = y64.1)) && ((decide (y59.2.1 = y64.2.1)) && ((decide (y59.2.2.1 = y64.2.2.1)) && (decide (y59.2.2.2.1 = y64.2.2.2.1)))))) then some false
  else (bif (!(decide (y59.2.2.2.2 = y64.2.2.2.2))) then some false
  else (life_Formed n (cI (cL (((([] : Lv) ++ [[(AV.sl (.cons .int (.cons .int (.cons .int .nil))) v13)]]) ++ [[(AV.sl (.cons .int (.cons .int (.cons .int .nil))) v14)]]) ++ [[(AV.sl (.cons .int (.cons .int (.cons .int .nil))) v15)]]) v16 0) v50 0) (cI (cL (((([] : Lv) ++ [[(AV.sl (.cons .int (.cons .int (.cons .int .nil))) v13)]]) ++ [[(AV.sl (.cons .int (.cons .int (.cons .int .nil))) v14)]]) ++ [[(AV.sl (.cons .int (.cons .int (.cons .int .nil))) v15)]]) v16 0) v50 1) (cI (cL (((([] : Lv) ++ [[(AV.sl (.cons .int (.cons .int (.cons .int .nil))) v13)]]) ++ [[(AV.sl (.cons .int (.cons .int (.cons .int .nil))) v14)]]) ++ [[(AV.sl (.cons .int (.cons .int (.cons .int .nil))) v15)]]) v16 0) v50 2)).bind fun y69 =>
  (ref14_Formed n (cI (cL (((([] : Lv) ++ [[(AV.sl (.cons .int (.cons .int (.cons .int .nil))) v13)]]) ++ [[(AV.sl (.cons .int (.cons .int (.cons .int .nil))) v14)]]) ++ [[(AV.sl (.cons .int (.cons .int (.cons .int .nil))) v15)]]) v16 0) v50 0) (cI (cL (((([] : Lv) ++ [[(AV.sl (.cons .int (.cons .int (.cons .int .nil))) v13)]]) ++ [[(AV.sl (.cons .int (.cons .int (.cons .int .nil))) v14)]]) ++ [[(AV.sl (.cons .int (.cons .int (.cons .int .nil))) v15)]]) v16 0) v50 1) (cI (cL (((([] : Lv) ++ [[(AV.sl (.cons .int (.cons .int (.cons .int .nil))) v13)]]) ++ [[(AV.sl (.cons .int (.cons .int (.cons .int .nil))) v14)]]) ++ [[(AV.sl (.cons .int (.cons .int (.cons .int .nil))) v15)]]) v16 0) v50 2)).bind fun y70 =>
  (bif (!(y69 == y70)) then some false
  else bif ((decide ((-9223372036854775808) ≤ (v50 + 1))) && (decide ((v50 + 1) ≤ 9223372036854775807))) then go1 (y59.2.2.2.2, y64.2.2.2.2, (v50 + 1), y59.1, y59.2.1, y59.2.2.1, y59.2.2.2.1, y64.1, y64.2.1, y64.2.2.1, y64.2.2.2.1) else none))) else none
  else bif ((decide ((-9223372036854775808) ≤ (v16 + 1))) && (decide ((v16 + 1) ≤ 9223372036854775807))) then go0 (v16 + 1) else none)
def law14_LifeMatchesReference_10 (n : Nat) (go0 : law14_LifeMatchesReference_s0 → Option law14_LifeMatchesReference_a) (go1 : law14_LifeMatchesReference_s1 → Option law14_LifeMatchesReference_a) (v5 v6 v7 v8 v9 v10 v11 : Int) (v13 v14 v15 : Lv) (v16 v36 v37 v38 v39 v40 v41 v42 v43 v44 v45 v46 v47 : Int) : Option law14_LifeMatchesReference_a :=
  (bif (decide (v39 < 2)) then bif (decide (0 ≤ v39)) then (life_At n (cL (((([] : Lv) ++ [[(AV.sl (.cons .int (.cons .int (.cons .int .nil))) v13)]]) ++ [[(AV.sl (.cons .int (.cons .int (.cons .int .nil))) v14)]]) ++ [[(AV.sl (.cons .int (.cons .int (.cons .int .nil))) v15)]]) v16 0) (cI ((([] : Lv) ++ [[(AV.int v9)]]) ++ [[(AV.int v36)]]) v39 0)).bind fun y48 =>
  (ref14_At n (cL (((([] : Lv) ++ [[(AV.sl (.cons .int (.cons .int (.cons .int .nil))) v13)]]) ++ [[(AV.sl (.cons .int (.cons .int (.cons .int .nil))) v14)]]) ++ [[(AV.sl (.cons .int (.cons .int (.cons .int .nil))) v15)]]) v16 0) (cI ((([] : Lv) ++ [[(AV.int v9)]]) ++ [[(AV.int v36)]]) v39 0)).bind fun y53 =>
  (life_Keep n (cL (((([] : Lv) ++ [[(AV.sl (.cons .int (.cons .int (.cons .int .nil))) v13)]]) ++ [[(AV.sl (.cons .int (.cons .int (.cons .int .nil))) v14)]]) ++ [[(AV.sl (.cons .int (.cons .int (.cons .int .nil))) v15)]]) v16 0) (cI ((([] : Lv) ++ [[(AV.int v9)]]) ++ [[(AV.int v36)]]) v39 0)).bind fun y58 =>
  (ref14_Keep n (cL (((([] : Lv) ++ [[(AV.sl (.cons .int (.cons .int (.cons .int .nil))) v13)]]) ++ [[(AV.sl (.cons .int (.cons .int (.cons .int .nil))) v14)]]) ++ [[(AV.sl (.cons .int (.cons .int (.cons .int .nil))) v15)]]) v16 0) (cI ((([] : Lv) ++ [[(AV.int v9)]]) ++ [[(AV.int v36)]]) v39 0)).bind fun y61 =>
  (bif (!((decide (y48.1 = y53.1)) && ((decide (y48.2.1 = y53.2.1)) && ((decide (y48.2.2.1 = y53.2.2.1)) && (decide (y48.2.2.2.1 = y53.2.2.2.1)))))) then some false
  else (bif (!(decide (y48.2.2.2.2 = y53.2.2.2.2))) then some false
  else (bif (!((decide (y58.1 = y61.1)) && (decide (y58.2.1 = y61.2.1)))) then some false
  else (bif (!(decide (y58.2.2 = y61.2.2))) then some false
  else (law14_pick n v10 4).bind fun y64 =>
  (ref14_Time n v13 v11).bind fun y65 =>
  (iterF (fun go2 s => law14_LifeMatchesReference_11 n go0 go1 go2 v9 v10 v11 v13 v14 v15 v16 v36 v39 y48.1 y48.2.1 y48.2.2.1 y48.2.2.2.1 y48.2.2.2.2 y53.1 y53.2.1 y53.2.2.1 y53.2.2.2.1 y53.2.2.2.2 y61.1 y61.2.1 y64 y65 s) n (0 : law14_LifeMatchesReference_s0)))))) else none
  else (iterF (fun go1 s => law14_LifeMatchesReference_13 n go0 go1 v5 v6 v7 v8 v13 v14 v15 v16 s.2.2.1) n ((v37, v38, 0, v40, v41, v42, v43, v44, v45, v46, v47) : law14_LifeMatchesReference_s1)))
def law14_LifeMatchesReference_9 (n : Nat) (go0 : law14_LifeMatchesReference_s0 → Option law14_LifeMatchesReference_a) (v5 v6 v7 v8 v9 v10 v11 : Int) (v13 v14 v15 : Lv) (v16 v17 v18 v19 v20 v22 v23 v24 v25 v26 v28 : Int) (v34 v35 : Bool) : Option law14_LifeMatchesReference_a :=
  (bif (!(v34 == v35)) then some false
  else (ref14_Time n v13 v9).bind fun y36 =>
  (iterF (fun go1 s => law14_LifeMatchesReference_10 n go0 go1 v5 v6 v7 v8 v9 v10 v11 v13 v14 v15 v16 y36 s.1 s.2.1 s.2.2.1 s.2.2.2.1 s.2.2.2.2.1 s.2.2.2.2.2.1 s.2.2.2.2.2.2.1 s.2.2.2.2.2.2.2.1 s.2.2.2.2.2.2.2.2.1 s.2.2.2.2.2.2.2.2.2.1 s.2.2.2.2.2.2.2.2.2.2) n ((v22, v28, 0, v17, v18, v19, v20, v23, v24, v25, v26) : law14_LifeMatchesReference_s1)))
def law14_LifeMatchesReference_8 (n : Nat) (go0 : law14_LifeMatchesReference_s0 → Option law14_LifeMatchesReference_a) (v5 v6 v7 v8 v9 v10 v11 : Int) (v13 v14 v15 : Lv) (v16 v17 v18 v19 v20 v22 v23 v24 v25 v26 v28 : Int) (v33 : Bool) : Option law14_LifeMatchesReference_a :=
  (bif (!v33) then some false
  else (life_Valid n v5 v6 v7 v8).bind fun y34 =>
  (ref14_Valid n v5 v6 v7 v8).bind fun y35 =>
  law14_LifeMatchesReference_9 n go0 v5 v6 v7 v8 v9 v10 v11 v13 v14 v15 v16 v17 v18 v19 v20 v22 v23 v24 v25 v26 v28 y34 y35)
def law14_LifeMatchesReference_7 (n : Nat) (go0 : law14_LifeMatchesReference_s0 → Option law14_LifeMatchesReference_a) (v5 v6 v7 v8 v9 v10 v11 : Int) (v13 v14 v15 : Lv) (v16 v17 v18 v19 v20 v22 v23 v24 v25 v26 v28 : Int) (v29 : Lv) (v30 : Int) (v31 : Lv) (v32 : Int) : Option law14_LifeMatchesReference_a :=
  (bif (!(decide (v30 = v32))) then some false
  else (ref14_SameStays n v29 v31).bind fun y33 =>
  law14_LifeMatchesReference_8 n go0 v5 v6 v7 v8 v9 v10 v11 v13 v14 v15 v16 v17 v18 v19 v20 v22 v23 v24 v25 v26 v28 y33)
def law14_LifeMatchesReference_6 (n : Nat) (go0 : law14_LifeMatchesReference_s0 → Option law14_LifeMatchesReference_a) (v5 v6 v7 v8 v9 v10 v11 : Int) (v13 v14 v15 : Lv) (v16 v17 v18 v19 v20 v22 v23 v24 v25 v26 v28 : Int) (v29 : Lv) (v30 : Int) (v31 : Lv) (v32 : Int) : Option law14_LifeMatchesReference_a :=
  (bif (!(decide (v22 = v28))) then some false
  else law14_LifeMatchesReference_7 n go0 v5 v6 v7 v8 v9 v10 v11 v13 v14 v15 v16 v17 v18 v19 v20 v22 v23 v24 v25 v26 v28 v29 v30 v31 v32)
def law14_LifeMatchesReference_5 (n : Nat) (go0 : law14_LifeMatchesReference_s0 → Option law14_LifeMatchesReference_a) (v5 v6 v7 v8 v9 v10 v11 : Int) (v13 v14 v15 : Lv) (v16 v17 v18 v19 v20 v21 v22 v23 v24 v25 v26 v27 v28 : Int) (v29 : Lv) (v30 : Int) (v31 : Lv) (v32 : Int) : Option law14_LifeMatchesReference_a :=
  (bif (!(decide (v21 = v27))) then some false
  else law14_LifeMatchesReference_6 n go0 v5 v6 v7 v8 v9 v10 v11 v13 v14 v15 v16 v17 v18 v19 v20 v22 v23 v24 v25 v26 v28 v29 v30 v31 v32)
def law14_LifeMatchesReference_4 (n : Nat) (go0 : law14_LifeMatchesReference_s0 → Option law14_LifeMatchesReference_a) (v5 v6 v7 v8 v9 v10 v11 : Int) (v13 v14 v15 : Lv) (v16 v17 v18 v19 v20 v21 v22 v23 v24 v25 v26 v27 v28 : Int) (v29 : Lv) (v30 : Int) (v31 : Lv) (v32 : Int) : Option law14_LifeMatchesReference_a :=
  (bif (!((decide (v17 = v23)) && ((decide (v18 = v24)) && ((decide (v19 = v25)) && (decide (v20 = v26)))))) then some false
  else law14_LifeMatchesReference_5 n go0 v5 v6 v7 v8 v9 v10 v11 v13 v14 v15 v16 v17 v18 v19 v20 v21 v22 v23 v24 v25 v26 v27 v28 v29 v30 v31 v32)
def law14_LifeMatchesReference_3 (n : Nat) (go0 : law14_LifeMatchesReference_s0 → Option law14_LifeMatchesReference_a) (v5 v6 v7 v8 v9 v10 v11 : Int) (v13 v14 v15 : Lv) (v16 : Int) : Option law14_LifeMatchesReference_a :=
  (bif (decide (v16 < 3)) then bif (decide (0 ≤ v16)) then (life_Run n (cL (((([] : Lv) ++ [[(AV.sl (.cons .int (.cons .int (.cons .int .nil))) v13)]]) ++ [[(AV.sl (.cons .int (.cons .int (.cons .int .nil))) v14)]]) ++ [[(AV.sl (.cons .int (.cons .int (.cons .int .nil))) v15)]]) v16 0)).bind fun y17 =>
  (ref14_Run n (cL (((([] : Lv) ++ [[(AV.sl (.cons .int (.cons .int (.cons .int .nil))) v13)]]) ++ [[(AV.sl (.cons .int (.cons .int (.cons .int .nil))) v14)]]) ++ [[(AV.sl (.cons .int (.cons .int (.cons .int .nil))) v15)]]) v16 0)).bind fun y23 =>
  (life_Stays n (cL (((([] : Lv) ++ [[(AV.sl (.cons .int (.cons .int (.cons .int .nil))) v13)]]) ++ [[(AV.sl (.cons .int (.cons .int (.cons .int .nil))) v14)]]) ++ [[(AV.sl (.cons .int (.cons .int (.cons .int .nil))) v15)]]) v16 0)).bind fun y29 =>
  (ref14_Stays n (cL (((([] : Lv) ++ [[(AV.sl (.cons .int (.cons .int (.cons .int .nil))) v13)]]) ++ [[(AV.sl (.cons .int (.cons .int (.cons .int .nil))) v14)]]) ++ [[(AV.sl (.cons .int (.cons .int (.cons .int .nil))) v15)]]) v16 0)).bind fun y31 =>
  law14_LifeMatchesReference_4 n go0 v5 v6 v7 v8 v9 v10 v11 v13 v14 v15 v16 y17.1 y17.2.1 y17.2.2.1 y17.2.2.2.1 y17.2.2.2.2.1 y17.2.2.2.2.2 y23.1 y23.2.1 y23.2.2.1 y23.2.2.2.1 y23.2.2.2.2.1 y23.2.2.2.2.2 y29.1 y29.2 y31.1 y31.2 else none
  else some true)
def law14_LifeMatchesReference_2 (n : Nat) (v0 : Lv) (v1 v2 v3 : Int) (v4 : Lv) (v5 v6 v7 v8 v9 v10 v11 : Int) (v12 : Bool) : Option law14_LifeMatchesReference_a :=
  (bif (!v12) then some false
  else (ref14_Made n v0).bind fun y13 =>
  (ref14_Bent n y13 v1 v2 v3).bind fun y14 =>
  (law14_few n v4).bind fun y15 =>
  (iterF (fun go0 s => law14_LifeMatchesReference_3 n go0 v5 v6 v7 v8 v9 v10 v11 y13 y14 y15 s) n (0 : law14_LifeMatchesReference_s0)))
def law14_LifeMatchesReference_1 (n : Nat) (v0 : Lv) (v1 v2 v3 : Int) (v4 : Lv) (v5 v6 v7 v8 v9 v10 v11 : Int) : Option law14_LifeMatchesReference_a :=
  (law14_sane n ).bind fun y12 =>
  law14_LifeMatchesReference_2 n v0 v1 v2 v3 v4 v5 v6 v7 v8 v9 v10 v11 y12
def law14_LifeMatchesReference (n : Nat) (v0 : Lv) (v1 v2 v3 : Int) (v4 : Lv) (v5 v6 v7 v8 v9 v10 v11 : Int) : Option law14_LifeMatchesReference_a := law14_LifeMatchesReference_1 n v0 v1 v2 v3 v4 v5 v6 v7 v8 v9 v10 v11
def law14_LifeMatchesReference_t : FnT := ⟨[(false, [(.sl (.cons .int (.cons .int (.cons .int .nil))))]), (true, [.int, .int, .int]), (false, [(.sl (.cons .int (.cons .int (.cons .int .nil))))]), (true, [.int, .int, .int, .int]), (false, [.int]), (true, [.int, .int])], .b, fun n (s : Lv × Int × Int × Int × Lv × Int × Int × Int × Int × Int × Int × Int) => law14_LifeMatchesReference n s.1 s.2.1 s.2.2.1 s.2.2.2.1 s.2.2.2.2.1 s.2.2.2.2.2.1 s.2.2.2.2.2.2.1 s.2.2.2.2.2.2.2.1 s.2.2.2.2.2.2.2.2.1 s.2.2.2.2.2.2.2.2.2.1 s.2.2.2.2.2.2.2.2.2.2.1 s.2.2.2.2.2.2.2.2.2.2.2⟩
theorem law14_LifeMatchesReference_ok : law14_LifeMatchesReference_t.ok Try.prog 3 := FnT.ok_of (cfg := ⟨[((3, 5, 5), .inv [(.tmp 60 .int)]), ((3, 14, 13), .inv [(.tmp 18 .int), (.tmp 21 .int), (.tmp 123 .int), (.cell 6 0 .int), (.cell 6 1 .int), (.cell 6 2 .int), (.cell 6 3 .int), (.cell 8 0 .int), (.cell 8 1 .int), (.cell 8 2 .int), (.cell 8 3 .int)]), ((3, 23, 31), .inv [(.tmp 181 .int)]), ((3, 26, 35), .inv [(.tmp 193 .int)]), ((3, 36, 24), .inv [(.tmp 18 .int), (.tmp 21 .int), (.tmp 42 .int), (.cell 6 0 .int), (.cell 6 1 .int), (.cell 6 2 .int), (.cell 6 3 .int), (.cell 8 0 .int), (.cell 8 1 .int), (.cell 8 2 .int), (.cell 8 3 .int)])], consE3, [], []⟩) (tab := law14_sane_T) (mt := mt0) pfit law14_sane_T_ok mt0_ok (fun s fn hf => by rw [Try.func3] at hf; cases hf; kernel_rfl) (fun n s => by kernel_rfl)
def law14_LifeMatchesReference_T : Tab := (3, law14_LifeMatchesReference_t) :: law14_sane_T
theorem law14_LifeMatchesReference_T_ok : law14_LifeMatchesReference_T.ok Try.prog := Tab.ok_cons law14_LifeMatchesReference_ok law14_sane_T_ok
end
end Go.Proofs.Ytjhakonpnopcnaa
