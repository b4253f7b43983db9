/-
  Plain functions for functions of the program, each with its contract (printed by decomp.py).
-/
import Derived.Test.YtjllgiddmeiaoaaSxP
import Derived.Test.YtjllgiddmeiaoaaSx25
import Derived.Test.YtjllgiddmeiaoaaDS
set_option linter.unusedSimpArgs false
set_option linter.unusedVariables false
set_option maxRecDepth 100000
namespace Go.Proofs.Ytjllgiddmeiaoaa
open Go Go.Sx
noncomputable section
def consE6 : List Nat := [12, 13, 14, 15, 16, 17, 18, 19, 20, 21, 22, 23, 24, 25, 26, 27, 28, 29, 30, 31, 32, 33, 34, 35, 36, 37, 38, 41, 42, 43, 47, 49, 50, 52, 53, 54, 56, 57, 58, 61, 64, 79, 80, 82, 83, 84, 86, 87, 88, 89, 90, 100, 101, 106]
def mapsE6 : List (Nat × SV × SV) := [(69, SV.of [.agg (SV.of [.vi (.int 1), .vi (.int 1)]), .agg (SV.of [.vi (.int 2), .vi (.int 1)]), .agg (SV.of [.vi (.int 3), .vi (.int 2)]), .agg (SV.of [.vi (.int 4), .vi (.int 2)]), .agg (SV.of [.vi (.int 5), .vi (.int 1)]), .agg (SV.of [.vi (.int 5), .vi (.int 2)]), .agg (SV.of [.vi (.int 5), .vi (.int 3)]), .agg (SV.of [.vi (.int 6), .vi (.int 4)])], SV.of [.vi (.int 3), .vi (.int 2), .vi (.int 3), .vi (.int 6), .vi (.int 7), .vi (.int 7), .vi (.int 7), .vi (.int 8)])]
/-! dialtone/dialtonelaw17.ChainBack -/
abbrev law17_ChainBack_a := Bool
abbrev law17_ChainBack_s0 := Int
def law17_ChainBack_11 (n : Nat) (go0 : law17_ChainBack_s0 → Option law17_ChainBack_a) (go1 : law17_ChainBack_s0 → Option law17_ChainBack_a) (v16 v17 : Lv) (v19 v20 : Int) (v22 : Lv) (v23 v24 : Int) (v25 : Lv) (v26 v27 : Int) : Option law17_ChainBack_a :=
  (bif (decide (v27 < (v22.length : Int))) then bif (decide (0 ≤ v27)) then (bif (!(decide ((cI v22 v27 0) = (cI v17 v19 1)))) then bif ((decide ((-9223372036854775808) ≤ (v27 + 1))) && (decide ((v27 + 1) ≤ 9223372036854775807))) then go1 (v27 + 1) else none
  else (bif (!(decide (v23 = 0))) then some false
  else (bif (!(decide (v26 = 0))) then some false
  else bif (decide (0 ≤ (cI v17 v19 1))) then bif (decide ((cI v17 v19 1) < (v16.length : Int))) then (bif (!(decide (v24 = (cI v16 (cI v17 v19 1) 1)))) then some false
  else (bif (decide (v27 = (v22.length : Int))) then (bif (!(decide ((cI v17 v20 0) = (cI v17 v19 0)))) then some false
  else bif (decide (v27 ≤ (v22.length : Int))) then (ref16_Ints n v25 (List.take (v27).toNat v22)).bind fun y28 =>
  (bif (!y28) then some false
  else go0 (v19 + 1)) else none)
  else bif (decide (v27 ≤ (v22.length : Int))) then (ref16_Ints n v25 (List.take (v27).toNat v22)).bind fun y28 =>
  (bif (!y28) then some false
  else go0 (v19 + 1)) else none)) else none else none))) else none
  else (bif (!(decide (v23 = 0))) then some false
  else (bif (!(decide (v26 = 0))) then some false
  else bif (decide (0 ≤ (cI v17 v19 1))) then bif (decide ((cI v17 v19 1) < (v16.length : Int))) then (bif (!(decide (v24 = (cI v16 (cI v17 v19 1) 1)))) then some false
  else (bif (decide (v27 = (v22.length : Int))) then (bif (!(decide ((cI v17 v20 0) = (cI v17 v19 0)))) then some false
  else go0 (v19 + 1))
  else go0 (v19 + 1))) else none else none)))
def law17_ChainBack_12 (n : Nat) (go0 : law17_ChainBack_s0 → Option law17_ChainBack_a) (go1 : law17_ChainBack_s0 → Option law17_ChainBack_a) (v16 v17 : Lv) (v19 v20 : Int) (v22 : Lv) (v23 v24 : Int) (v25 : Lv) (v26 v27 : Int) : Option law17_ChainBack_a :=
  (bif (decide (v27 < (v22.length : Int))) then bif (decide (0 ≤ v27)) then (bif (!(decide ((cI v22 v27 0) = (cI v17 v19 1)))) then bif ((decide ((-9223372036854775808) ≤ (v27 + 1))) && (decide ((v27 + 1) ≤ 9223372036854775807))) then go1 (v27 + 1) else none
  else (bif (!(decide (v23 = 0))) then some false
  else (bif (!(decide (v26 = 0))) then some false
  else bif (decide (0 ≤ (cI v17 v19 1))) then bif (decide ((cI v17 v19 1) < (v16.length : Int))) then (bif (!(decide (v24 = (cI v16 (cI v17 v19 1) 1)))) then some false
  else (bif (decide (v27 = (v22.length : Int))) then (bif (!(decide ((cI v17 v20 0) = (cI v17 v19 0)))) then some false
  else bif (decide (v27 ≤ (v22.length : Int))) then (ref16_Ints n v25 (List.take (v27).toNat v22)).bind fun y28 =>
  (bif (!y28) then some false
  else go0 (v19 + 1)) else none)
  else bif (decide (v27 ≤ (v22.length : Int))) then (ref16_Ints n v25 (List.take (v27).toNat v22)).bind fun y28 =>
  (bif (!y28) then some false
  else go0 (v19 + 1)) else none)) else none else none))) else none
  else (bif (!(decide (v23 = 0))) then some false
  else (bif (!(decide (v26 = 0))) then some false
  else bif (decide (0 ≤ (cI v17 v19 1))) then bif (decide ((cI v17 v19 1) < (v16.length : Int))) then (bif (!(decide (v24 = (cI v16 (cI v17 v19 1) 1)))) then some false
  else (bif (decide (v27 = (v22.length : Int))) then (bif (!(decide ((cI v17 v20 0) = (cI v17 v19 0)))) then some false
  else go0 (v19 + 1))
  else go0 (v19 + 1))) else none else none)))
def law17_ChainBack_10 (n : Nat) (go0 : law17_ChainBack_s0 → Option law17_ChainBack_a) (go1 : law17_ChainBack_s0 → Option law17_ChainBack_a) (v9 v10 v11 v12 v13 v14 : Int) (v15 v16 v17 : Lv) (v19 v20 : Int) : Option law17_ChainBack_a :=
  (bif (decide (0 < v20)) then bif (decide (0 ≤ v20)) then bif (decide (v20 < (v17.length : Int))) then (bif (!(decide ((cI v17 v20 2) = 1))) then bif ((decide ((-9223372036854775808) ≤ (v20 - 1))) && (decide ((v20 - 1) ≤ 9223372036854775807))) then go1 (v20 - 1) else none
  else (bif (!(decide ((cI v17 v20 1) = (cI v17 v19 1)))) then bif ((decide ((-9223372036854775808) ≤ (v20 - 1))) && (decide ((v20 - 1) ≤ 9223372036854775807))) then go1 (v20 - 1) else none
  else (chain_At n v9 v10 v11 v12 v13 v14 v15 v16 (cI v17 v20 0)).bind fun y21 =>
  (chain_At n v9 v10 v11 v12 v13 v14 v15 v16 (cI v17 v19 0)).bind fun y24 =>
  (iterF (fun go1 s => law17_ChainBack_11 n go0 go1 v16 v17 v19 v20 y21.2.1 y21.2.2 y24.1 y24.2.1 y24.2.2 s) n (0 : law17_ChainBack_s0)))) else none else none
  else bif (decide (0 ≤ v20)) then bif (decide (v20 < (v17.length : Int))) then (bif (!(decide ((cI v17 v20 2) = 1))) then some false
  else (bif (!(decide ((cI v17 v20 1) = (cI v17 v19 1)))) then some false
  else (chain_At n v9 v10 v11 v12 v13 v14 v15 v16 (cI v17 v20 0)).bind fun y21 =>
  (chain_At n v9 v10 v11 v12 v13 v14 v15 v16 (cI v17 v19 0)).bind fun y24 =>
  (iterF (fun go1 s => law17_ChainBack_12 n go0 go1 v16 v17 v19 v20 y21.2.1 y21.2.2 y24.1 y24.2.1 y24.2.2 s) n (0 : law17_ChainBack_s0)))) else none else none)
def law17_ChainBack_9 (n : Nat) (go0 : law17_ChainBack_s0 → Option law17_ChainBack_a) (v9 v10 v11 v12 v13 v14 : Int) (v15 v16 v17 : Lv) (v19 : Int) : Option law17_ChainBack_a :=
  (bif (decide ((v16.length : Int) ≤ (cI v17 v19 1))) then some false
  else (iterF (fun go1 s => law17_ChainBack_10 n go0 go1 v9 v10 v11 v12 v13 v14 v15 v16 v17 v19 s) n (v19 : law17_ChainBack_s0)))
def law17_ChainBack_8 (n : Nat) (go0 : law17_ChainBack_s0 → Option law17_ChainBack_a) (v9 v10 v11 v12 v13 v14 : Int) (v15 v16 v17 : Lv) (v19 : Int) : Option law17_ChainBack_a :=
  (bif (decide ((cI v17 v19 1) < 0)) then some false
  else law17_ChainBack_9 n go0 v9 v10 v11 v12 v13 v14 v15 v16 v17 v19)
def law17_ChainBack_7 (n : Nat) (go0 : law17_ChainBack_s0 → Option law17_ChainBack_a) (v9 v10 v11 v12 v13 v14 : Int) (v15 v16 v17 : Lv) (v19 : Int) : Option law17_ChainBack_a :=
  (bif (decide ((cI v17 (v19 + 1) 0) = (cI v17 v19 0))) then go0 (v19 + 1)
  else law17_ChainBack_8 n go0 v9 v10 v11 v12 v13 v14 v15 v16 v17 v19)
def law17_ChainBack_16 (n : Nat) (go0 : law17_ChainBack_s0 → Option law17_ChainBack_a) (go1 : law17_ChainBack_s0 → Option law17_ChainBack_a) (v16 v17 : Lv) (v19 v20 : Int) (v22 : Lv) (v23 v24 : Int) (v25 : Lv) (v26 v27 : Int) : Option law17_ChainBack_a :=
  (bif (decide (v27 < (v22.length : Int))) then bif (decide (0 ≤ v27)) then (bif (!(decide ((cI v22 v27 0) = (cI v17 v19 1)))) then bif ((decide ((-9223372036854775808) ≤ (v27 + 1))) && (decide ((v27 + 1) ≤ 9223372036854775807))) then go1 (v27 + 1) else none
  else (bif (!(decide (v23 = 0))) then some false
  else (bif (!(decide (v26 = 0))) then some false
  else bif (decide (0 ≤ (cI v17 v19 1))) then bif (decide ((cI v17 v19 1) < (v16.length : Int))) then (bif (!(decide (v24 = (cI v16 (cI v17 v19 1) 1)))) then some false
  else (bif (decide (v27 = (v22.length : Int))) then (bif (!(decide ((cI v17 v20 0) = (cI v17 v19 0)))) then some false
  else bif (decide (v27 ≤ (v22.length : Int))) then (ref16_Ints n v25 (List.take (v27).toNat v22)).bind fun y28 =>
  (bif (!y28) then some false
  else go0 (v19 + 1)) else none)
  else bif (decide (v27 ≤ (v22.length : Int))) then (ref16_Ints n v25 (List.take (v27).toNat v22)).bind fun y28 =>
  (bif (!y28) then some false
  else go0 (v19 + 1)) else none)) else none else none))) else none
  else (bif (!(decide (v23 = 0))) then some false
  else (bif (!(decide (v26 = 0))) then some false
  else bif (decide (0 ≤ (cI v17 v19 1))) then bif (decide ((cI v17 v19 1) < (v16.length : Int))) then (bif (!(decide (v24 = (cI v16 (cI v17 v19 1) 1)))) then some false
  else (bif (decide (v27 = (v22.length : Int))) then (bif (!(decide ((cI v17 v20 0) = (cI v17 v19 0)))) then some false
  else go0 (v19 + 1))
  else go0 (v19 + 1))) else none else none)))
def law17_ChainBack_17 (n : Nat) (go0 : law17_ChainBack_s0 → Option law17_ChainBack_a) (go1 : law17_ChainBack_s0 → Option law17_ChainBack_a) (v16 v17 : Lv) (v19 v20 : Int) (v22 : Lv) (v23 v24 : Int) (v25 : Lv) (v26 v27 : Int) : Option law17_ChainBack_a :=
  (bif (decide (v27 < (v22.length : Int))) then bif (decide (0 ≤ v27)) then (bif (!(decide ((cI v22 v27 0) = (cI v17 v19 1)))) then bif ((decide ((-9223372036854775808) ≤ (v27 + 1))) && (decide ((v27 + 1) ≤ 9223372036854775807))) then go1 (v27 + 1) else none
  else (bif (!(decide (v23 = 0))) then some false
  else (bif (!(decide (v26 = 0))) then some false
  else bif (decide (0 ≤ (cI v17 v19 1))) then bif (decide ((cI v17 v19 1) < (v16.length : Int))) then (bif (!(decide (v24 = (cI v16 (cI v17 v19 1) 1)))) then some false
  else (bif (decide (v27 = (v22.length : Int))) then (bif (!(decide ((cI v17 v20 0) = (cI v17 v19 0)))) then some false
  else bif (decide (v27 ≤ (v22.length : Int))) then (ref16_Ints n v25 (List.take (v27).toNat v22)).bind fun y28 =>
  (bif (!y28) then some false
  else go0 (v19 + 1)) else none)
  else bif (decide (v27 ≤ (v22.length : Int))) then (ref16_Ints n v25 (List.take (v27).toNat v22)).bind fun y28 =>
  (bif (!y28) then some false
  else go0 (v19 + 1)) else none)) else none else none))) else none
  else (bif (!(decide (v23 = 0))) then some false
  else (bif (!(decide (v26 = 0))) then some false
  else bif (decide (0 ≤ (cI v17 v19 1))) then bif (decide ((cI v17 v19 1) < (v16.length : Int))) then (bif (!(decide (v24 = (cI v16 (cI v17 v19 1) 1)))) then some false
  else (bif (decide (v27 = (v22.length : Int))) then (bif (!(decide ((cI v17 v20 0) = (cI v17 v19 0)))) then some false
  else go0 (v19 + 1))
  else go0 (v19 + 1))) else none else none)))
def law17_ChainBack_15 (n : Nat) (go0 : law17_ChainBack_s0 → Option law17_ChainBack_a) (go1 : law17_ChainBack_s0 → Option law17_ChainBack_a) (v9 v10 v11 v12 v13 v14 : Int) (v15 v16 v17 : Lv) (v19 v20 : Int) : Option law17_ChainBack_a :=
  (bif (decide (0 < v20)) then bif (decide (0 ≤ v20)) then bif (decide (v20 < (v17.length : Int))) then (bif (!(decide ((cI v17 v20 2) = 1))) then bif ((decide ((-9223372036854775808) ≤ (v20 - 1))) && (decide ((v20 - 1) ≤ 9223372036854775807))) then go1 (v20 - 1) else none
  else (bif (!(decide ((cI v17 v20 1) = (cI v17 v19 1)))) then bif ((decide ((-9223372036854775808) ≤ (v20 - 1))) && (decide ((v20 - 1) ≤ 9223372036854775807))) then go1 (v20 - 1) else none
  else (chain_At n v9 v10 v11 v12 v13 v14 v15 v16 (cI v17 v20 0)).bind fun y21 =>
  (chain_At n v9 v10 v11 v12 v13 v14 v15 v16 (cI v17 v19 0)).bind fun y24 =>
  (iterF (fun go1 s => law17_ChainBack_16 n go0 go1 v16 v17 v19 v20 y21.2.1 y21.2.2 y24.1 y24.2.1 y24.2.2 s) n (0 : law17_ChainBack_s0)))) else none else none
  else bif (decide (0 ≤ v20)) then bif (decide (v20 < (v17.length : Int))) then (bif (!(decide ((cI v17 v20 2) = 1))) then some false
  else (bif (!(decide ((cI v17 v20 1) = (cI v17 v19 1)))) then some false
  else (chain_At n v9 v10 v11 v12 v13 v14 v15 v16 (cI v17 v20 0)).bind fun y21 =>
  (chain_At n v9 v10 v11 v12 v13 v14 v15 v16 (cI v17 v19 0)).bind fun y24 =>
  (iterF (fun go1 s => law17_ChainBack_17 n go0 go1 v16 v17 v19 v20 y21.2.1 y21.2.2 y24.1 y24.2.1 y24.2.2 s) n (0 : law17_ChainBack_s0)))) else none else none)
def law17_ChainBack_14 (n : Nat) (go0 : law17_ChainBack_s0 → Option law17_ChainBack_a) (v9 v10 v11 v12 v13 v14 : Int) (v15 v16 v17 : Lv) (v19 : Int) : Option law17_ChainBack_a :=
  (bif (decide ((v16.length : Int) ≤ (cI v17 v19 1))) then some false
  else (iterF (fun go1 s => law17_ChainBack_15 n go0 go1 v9 v10 v11 v12 v13 v14 v15 v16 v17 v19 s) n (v19 : law17_ChainBack_s0)))
def law17_ChainBack_13 (n : Nat) (go0 : law17_ChainBack_s0 → Option law17_ChainBack_a) (v9 v10 v11 v12 v13 v14 : Int) (v15 v16 v17 : Lv) (v19 : Int) : Option law17_ChainBack_a :=
  (bif (decide ((cI v17 v19 1) < 0)) then some false
  else law17_ChainBack_14 n go0 v9 v10 v11 v12 v13 v14 v15 v16 v17 v19)
def law17_ChainBack_6 (n : Nat) (go0 : law17_ChainBack_s0 → Option law17_ChainBack_a) (v9 v10 v11 v12 v13 v14 : Int) (v15 v16 v17 : Lv) (v19 : Int) : Option law17_ChainBack_a :=
  (bif (decide ((v19 + 1) < (v17.length : Int))) then bif (decide (0 ≤ (v19 + 1))) then law17_ChainBack_7 n go0 v9 v10 v11 v12 v13 v14 v15 v16 v17 v19 else none
  else law17_ChainBack_13 n go0 v9 v10 v11 v12 v13 v14 v15 v16 v17 v19)
def law17_ChainBack_5 (n : Nat) (go0 : law17_ChainBack_s0 → Option law17_ChainBack_a) (v9 v10 v11 v12 v13 v14 : Int) (v15 v16 v17 : Lv) (v19 : Int) : Option law17_ChainBack_a :=
  (bif (!(decide ((cI v17 v19 2) = 3))) then bif ((decide ((-9223372036854775808) ≤ (v19 + 1))) && (decide ((v19 + 1) ≤ 9223372036854775807))) then go0 (v19 + 1) else none
  else bif ((decide ((-9223372036854775808) ≤ (v19 + 1))) && (decide ((v19 + 1) ≤ 9223372036854775807))) then law17_ChainBack_6 n go0 v9 v10 v11 v12 v13 v14 v15 v16 v17 v19 else none)
def law17_ChainBack_4 (n : Nat) (go0 : law17_ChainBack_s0 → Option law17_ChainBack_a) (v9 v10 v11 v12 v13 v14 : Int) (v15 v16 v17 : Lv) (v19 : Int) : Option law17_ChainBack_a :=
  (bif (decide (v19 < (v17.length : Int))) then bif (decide (0 ≤ v19)) then law17_ChainBack_5 n go0 v9 v10 v11 v12 v13 v14 v15 v16 v17 v19 else none
  else some true)
def law17_ChainBack_3 (n : Nat) (v9 v10 v11 v12 v13 v14 : Int) (v15 v16 v17 : Lv) (v18 : Int) : Option law17_ChainBack_a :=
  (bif (!(decide (v18 = 0))) then some false
  else (iterF (fun go0 s => law17_ChainBack_4 n go0 v9 v10 v11 v12 v13 v14 v15 v16 v17 s) n (0 : law17_ChainBack_s0)))
def law17_ChainBack_2 (n : Nat) (v0 v1 v2 v3 v4 v5 : Int) (v6 v7 : Lv) (v8 : Bool) : Option law17_ChainBack_a :=
  (bif (!v8) then some false
  else (ref17_Made n v0 v1 v2 v3 v4 v5 v6 v7).bind fun y9 =>
  (chain_Turns n y9.1 y9.2.1 y9.2.2.1 y9.2.2.2.1 y9.2.2.2.2.1 y9.2.2.2.2.2.1 y9.2.2.2.2.2.2.1 y9.2.2.2.2.2.2.2).bind fun y17 =>
  law17_ChainBack_3 n y9.1 y9.2.1 y9.2.2.1 y9.2.2.2.1 y9.2.2.2.2.1 y9.2.2.2.2.2.1 y9.2.2.2.2.2.2.1 y9.2.2.2.2.2.2.2 y17.1 y17.2)
def law17_ChainBack_1 (n : Nat) (v0 v1 v2 v3 v4 v5 : Int) (v6 v7 : Lv) : Option law17_ChainBack_a :=
  (law17_sane n ).bind fun y8 =>
  law17_ChainBack_2 n v0 v1 v2 v3 v4 v5 v6 v7 y8
def law17_ChainBack (n : Nat) (v0 v1 v2 v3 v4 v5 : Int) (v6 v7 : Lv) : Option law17_ChainBack_a := law17_ChainBack_1 n v0 v1 v2 v3 v4 v5 v6 v7
def law17_ChainBack_t : FnT := ⟨[(true, [.int, .int, .int, .int, .int, .int, (.sl (.cons .int (.cons .int (.cons .int .nil)))), (.sl (.cons .int (.cons .int (.cons .int (.cons .int (.cons .int (.cons .int (.cons (.sl (.cons .int (.cons .int (.cons .int .nil)))) (.cons .int .nil)))))))))])], .b, fun n (s : Int × Int × Int × Int × Int × Int × Lv × Lv) => law17_ChainBack n s.1 s.2.1 s.2.2.1 s.2.2.2.1 s.2.2.2.2.1 s.2.2.2.2.2.1 s.2.2.2.2.2.2.1 s.2.2.2.2.2.2.2⟩
theorem law17_ChainBack_ok : law17_ChainBack_t.ok Try.prog 6 := FnT.ok_of (cfg := ⟨[((6, 8, 6), .inv [(.tmp 6 .int)]), ((6, 15, 9), .inv [(.tmp 8 .int)]), ((6, 23, 14), .inv [(.tmp 16 .int)])], consE6, [], mapsE6⟩) (tab := law17_sane_T) (mt := mtE) pfit law17_sane_T_ok mtE_ok (fun s fn hf => by rw [Try.func6] at hf; cases hf; kernel_rfl) (fun n s => by kernel_rfl)
def law17_ChainBack_T : Tab := (6, law17_ChainBack_t) :: law17_sane_T
theorem law17_ChainBack_T_ok : law17_ChainBack_T.ok Try.prog := Tab.ok_cons law17_ChainBack_ok law17_sane_T_ok
end
end Go.Proofs.Ytjllgiddmeiaoaa
