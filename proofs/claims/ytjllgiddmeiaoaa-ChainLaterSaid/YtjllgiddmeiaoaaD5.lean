/-
  Plain functions for functions of the program, each with its contract (printed by decomp.py).
-/
import Derived.Test.YtjllgiddmeiaoaaSxP
import Derived.Test.YtjllgiddmeiaoaaSx25
import Derived.Test.YtjllgiddmeiaoaaD8
set_option linter.unusedSimpArgs false
set_option linter.unusedVariables false
set_option maxRecDepth 100000
namespace Go.Proofs.Ytjllgiddmeiaoaa
open Go Go.Sx
noncomputable section
def consD5 : List Nat := [12, 13, 14, 15, 16, 17, 18, 19, 20, 21, 22, 23, 24, 25, 26, 27, 28, 29, 30, 31, 32, 33, 34, 35, 36, 37, 38, 41, 42, 43, 47, 49, 50, 52, 53, 54, 56, 57, 58, 61, 64, 79, 80, 82, 83, 84, 86, 87, 88, 89, 90, 100, 101, 106]
def mapsD5 : List (Nat × SV × SV) := [(69, SV.of [.agg (SV.of [.vi (.int 1), .vi (.int 1)]), .agg (SV.of [.vi (.int 2), .vi (.int 1)]), .agg (SV.of [.vi (.int 3), .vi (.int 2)]), .agg (SV.of [.vi (.int 4), .vi (.int 2)]), .agg (SV.of [.vi (.int 5), .vi (.int 1)]), .agg (SV.of [.vi (.int 5), .vi (.int 2)]), .agg (SV.of [.vi (.int 5), .vi (.int 3)]), .agg (SV.of [.vi (.int 6), .vi (.int 4)])], SV.of [.vi (.int 3), .vi (.int 2), .vi (.int 3), .vi (.int 6), .vi (.int 7), .vi (.int 7), .vi (.int 7), .vi (.int 8)])]
/-! dialtone/dialtoneref17.pick -/
abbrev ref17_pick_a := Int
def ref17_pick_1 (n : Nat) (v0 v1 : Int) : Option ref17_pick_a :=
  (bif (decide (v0 < 0)) then bif ((decide ((-9223372036854775808) ≤ (v0 + 1))) && (decide ((v0 + 1) ≤ 9223372036854775807))) then bif ((decide ((-9223372036854775808) ≤ (0 - (v0 + 1)))) && (decide ((0 - (v0 + 1)) ≤ 9223372036854775807))) then bif (!(decide (v1 = 0))) then some (Int.tmod (0 - (v0 + 1)) v1) else none else none else none
  else bif (!(decide (v1 = 0))) then some (Int.tmod v0 v1) else none)
def ref17_pick (n : Nat) (v0 v1 : Int) : Option ref17_pick_a := ref17_pick_1 n v0 v1
def ref17_pick_t : FnT := ⟨[(false, [.int]), (false, [.int])], .i, fun n (s : Int × Int) => ref17_pick n s.1 s.2⟩
theorem ref17_pick_ok : ref17_pick_t.ok Try.prog 33 := FnT.ok_of (cfg := ⟨[], consD5, [], mapsD5⟩) (tab := chain_At_T) (mt := mtE) pfit chain_At_T_ok mtE_ok (fun s fn hf => by rw [Try.func33] at hf; cases hf; kernel_rfl) (fun n s => by kernel_rfl)
def ref17_pick_T : Tab := (33, ref17_pick_t) :: chain_At_T
theorem ref17_pick_T_ok : ref17_pick_T.ok Try.prog := Tab.ok_cons ref17_pick_ok chain_At_T_ok
/-! dialtone/dialtoneref17.Made -/
abbrev ref17_Made_a := Int × Int × Int × Int × Int × Int × Lv × Lv
abbrev ref17_Made_s0 := Int × Lv
def ref17_Made_9 (n : Nat) (go0 : ref17_Made_s0 → Option ref17_Made_a) (go1 : ref17_Made_s0 → Option ref17_Made_a) (v15 v36 : Int) (v37 : Lv) : Option ref17_Made_a :=
  (bif (decide (0 < v36)) then bif (decide (0 ≤ v36)) then bif (decide (v36 < (v37.length : Int))) then bif ((decide ((-9223372036854775808) ≤ (v36 - 1))) && (decide ((v36 - 1) ≤ 9223372036854775807))) then bif (decide (0 ≤ (v36 - 1))) then bif (decide ((v36 - 1) < (v37.length : Int))) then (bif (decide ((cI v37 v36 4) < (cI v37 (v36 - 1) 4))) then go1 ((v36 - 1), (List.modify (List.modify (List.modify (List.modify (List.modify (List.modify (List.modify (List.modify (List.modify (List.modify (List.modify (List.modify (List.modify (List.modify v37 (v36).toNat (fun r => r.set 0 (AV.int (cI v37 (v36 - 1) 0)))) (v36).toNat (fun r => r.set 1 (AV.int (cI v37 (v36 - 1) 1)))) (v36).toNat (fun r => r.set 2 (AV.int (cI v37 (v36 - 1) 2)))) (v36).toNat (fun r => r.set 3 (AV.int (cI v37 (v36 - 1) 3)))) (v36).toNat (fun r => r.set 4 (AV.int (cI v37 (v36 - 1) 4)))) (v36).toNat (fun r => r.set 5 (AV.bool (cB v37 (v36 - 1) 5)))) (v36).toNat (fun r => r.set 6 (AV.sl (.cons .int (.cons .int (.cons .int .nil))) (cL v37 (v36 - 1) 6)))) ((v36 - 1)).toNat (fun r => r.set 0 (AV.int (cI v37 v36 0)))) ((v36 - 1)).toNat (fun r => r.set 1 (AV.int (cI v37 v36 1)))) ((v36 - 1)).toNat (fun r => r.set 2 (AV.int (cI v37 v36 2)))) ((v36 - 1)).toNat (fun r => r.set 3 (AV.int (cI v37 v36 3)))) ((v36 - 1)).toNat (fun r => r.set 4 (AV.int (cI v37 v36 4)))) ((v36 - 1)).toNat (fun r => r.set 5 (AV.bool (cB v37 v36 5)))) ((v36 - 1)).toNat (fun r => r.set 6 (AV.sl (.cons .int (.cons .int (.cons .int .nil))) (cL v37 v36 6)))))
  else bif ((decide ((-9223372036854775808) ≤ (v15 + 1))) && (decide ((v15 + 1) ≤ 9223372036854775807))) then go0 ((v15 + 1), v37) else none) else none else none else none else none else none
  else bif ((decide ((-9223372036854775808) ≤ (v15 + 1))) && (decide ((v15 + 1) ≤ 9223372036854775807))) then go0 ((v15 + 1), v37) else none)
abbrev ref17_Made_10 := @ref17_Made_9
def ref17_Made_8 (n : Nat) (go0 : ref17_Made_s0 → Option ref17_Made_a) (v8 v15 : Int) (v16 : Lv) (v23 v24 v25 : Int) (v26 : Bool) (v27 : Lv) (v28 v31 v35 : Int) : Option ref17_Made_a :=
  (bif (decide (v35 < 7)) then bif (decide ((((v16.length : Int) + 1) * 72) ≤ 140737488355328)) then bif ((decide ((-9223372036854775808) ≤ (((v16.length : Int) + 1) - 1))) && (decide ((((v16.length : Int) + 1) - 1) ≤ 9223372036854775807))) then (iterF (fun go1 s => ref17_Made_9 n go0 go1 v15 s.1 s.2) n (((((v16.length : Int) + 1) - 1), (v16 ++ [[(AV.int v8), (AV.int (cI v16 (((v16.length : Int) - v28) - 1) 2)), (AV.int (Int.tmod (v23 + 1) 8)), (AV.int v31), (AV.int v25), (AV.bool v26), (AV.sl (.cons .int (.cons .int (.cons .int .nil))) v27)]])) : ref17_Made_s0)) else none else none
  else bif (decide ((((v16.length : Int) + 1) * 72) ≤ 140737488355328)) then bif ((decide ((-9223372036854775808) ≤ (((v16.length : Int) + 1) - 1))) && (decide ((((v16.length : Int) + 1) - 1) ≤ 9223372036854775807))) then (iterF (fun go1 s => ref17_Made_10 n go0 go1 v15 s.1 s.2) n (((((v16.length : Int) + 1) - 1), (v16 ++ [[(AV.int v8), (AV.int (cI v16 (((v16.length : Int) - v28) - 1) 2)), (AV.int (Int.tmod (v23 + 1) 8)), (AV.int v24), (AV.int v25), (AV.bool v26), (AV.sl (.cons .int (.cons .int (.cons .int .nil))) v27)]])) : ref17_Made_s0)) else none else none)
abbrev ref17_Made_11 := @ref17_Made_9
def ref17_Made_7 (n : Nat) (go0 : ref17_Made_s0 → Option ref17_Made_a) (v7 : Lv) (v8 v15 : Int) (v16 : Lv) (v23 v24 v25 : Int) (v26 : Bool) (v27 : Lv) (v28 v31 : Int) : Option ref17_Made_a :=
  (bif (decide (0 ≤ v31)) then bif ((decide ((-9223372036854775808) ≤ (Int.tdiv (cI v7 v15 7) 16))) && (decide ((Int.tdiv (cI v7 v15 7) 16) ≤ 9223372036854775807))) then (ref17_pick n (Int.tdiv (cI v7 v15 7) 16) 8).bind fun y35 =>
  ref17_Made_8 n go0 v8 v15 v16 v23 v24 v25 v26 v27 v28 v31 y35 else none
  else bif (decide ((((v16.length : Int) + 1) * 72) ≤ 140737488355328)) then bif ((decide ((-9223372036854775808) ≤ (((v16.length : Int) + 1) - 1))) && (decide ((((v16.length : Int) + 1) - 1) ≤ 9223372036854775807))) then (iterF (fun go1 s => ref17_Made_11 n go0 go1 v15 s.1 s.2) n (((((v16.length : Int) + 1) - 1), (v16 ++ [[(AV.int v8), (AV.int (cI v16 (((v16.length : Int) - v28) - 1) 2)), (AV.int (Int.tmod (v23 + 1) 8)), (AV.int v24), (AV.int v25), (AV.bool v26), (AV.sl (.cons .int (.cons .int (.cons .int .nil))) v27)]])) : ref17_Made_s0)) else none else none)
abbrev ref17_Made_14 := @ref17_Made_9
abbrev ref17_Made_15 := @ref17_Made_9
def ref17_Made_13 (n : Nat) (go0 : ref17_Made_s0 → Option ref17_Made_a) (v8 v15 : Int) (v16 : Lv) (v23 v24 v25 : Int) (v26 : Bool) (v27 : Lv) (v28 v31 v35 : Int) : Option ref17_Made_a :=
  (bif (decide (v35 < 7)) then bif (decide ((((v16.length : Int) + 1) * 72) ≤ 140737488355328)) then bif ((decide ((-9223372036854775808) ≤ (((v16.length : Int) + 1) - 1))) && (decide ((((v16.length : Int) + 1) - 1) ≤ 9223372036854775807))) then (iterF (fun go1 s => ref17_Made_14 n go0 go1 v15 s.1 s.2) n (((((v16.length : Int) + 1) - 1), (v16 ++ [[(AV.int v8), (AV.int (cI v16 (((v16.length : Int) - v28) - 1) 2)), (AV.int v23), (AV.int v31), (AV.int v25), (AV.bool v26), (AV.sl (.cons .int (.cons .int (.cons .int .nil))) v27)]])) : ref17_Made_s0)) else none else none
  else bif (decide ((((v16.length : Int) + 1) * 72) ≤ 140737488355328)) then bif ((decide ((-9223372036854775808) ≤ (((v16.length : Int) + 1) - 1))) && (decide ((((v16.length : Int) + 1) - 1) ≤ 9223372036854775807))) then (iterF (fun go1 s => ref17_Made_15 n go0 go1 v15 s.1 s.2) n (((((v16.length : Int) + 1) - 1), (v16 ++ [[(AV.int v8), (AV.int (cI v16 (((v16.length : Int) - v28) - 1) 2)), (AV.int v23), (AV.int v24), (AV.int v25), (AV.bool v26), (AV.sl (.cons .int (.cons .int (.cons .int .nil))) v27)]])) : ref17_Made_s0)) else none else none)
abbrev ref17_Made_16 := @ref17_Made_9
def ref17_Made_12 (n : Nat) (go0 : ref17_Made_s0 → Option ref17_Made_a) (v7 : Lv) (v8 v15 : Int) (v16 : Lv) (v23 v24 v25 : Int) (v26 : Bool) (v27 : Lv) (v28 v31 : Int) : Option ref17_Made_a :=
  (bif (decide (0 ≤ v31)) then bif ((decide ((-9223372036854775808) ≤ (Int.tdiv (cI v7 v15 7) 16))) && (decide ((Int.tdiv (cI v7 v15 7) 16) ≤ 9223372036854775807))) then (ref17_pick n (Int.tdiv (cI v7 v15 7) 16) 8).bind fun y35 =>
  ref17_Made_13 n go0 v8 v15 v16 v23 v24 v25 v26 v27 v28 v31 y35 else none
  else bif (decide ((((v16.length : Int) + 1) * 72) ≤ 140737488355328)) then bif ((decide ((-9223372036854775808) ≤ (((v16.length : Int) + 1) - 1))) && (decide ((((v16.length : Int) + 1) - 1) ≤ 9223372036854775807))) then (iterF (fun go1 s => ref17_Made_16 n go0 go1 v15 s.1 s.2) n (((((v16.length : Int) + 1) - 1), (v16 ++ [[(AV.int v8), (AV.int (cI v16 (((v16.length : Int) - v28) - 1) 2)), (AV.int v23), (AV.int v24), (AV.int v25), (AV.bool v26), (AV.sl (.cons .int (.cons .int (.cons .int .nil))) v27)]])) : ref17_Made_s0)) else none else none)
def ref17_Made_6 (n : Nat) (go0 : ref17_Made_s0 → Option ref17_Made_a) (v7 : Lv) (v8 : Int) (v14 : Lv) (v15 : Int) (v16 : Lv) (v23 v24 v25 : Int) (v26 : Bool) (v27 : Lv) (v28 : Int) : Option ref17_Made_a :=
  (bif (decide ((cI v16 (((v16.length : Int) - v28) - 1) 2) = v23)) then bif ((decide ((-9223372036854775808) ≤ (v23 + 1))) && (decide ((v23 + 1) ≤ 9223372036854775807))) then (ref14_At n v14 v25).bind fun y30 =>
  ref17_Made_7 n go0 v7 v8 v15 v16 v23 v24 v25 v26 v27 v28 y30.2.1 else none
  else (ref14_At n v14 v25).bind fun y30 =>
  ref17_Made_12 n go0 v7 v8 v15 v16 v23 v24 v25 v26 v27 v28 y30.2.1)
abbrev ref17_Made_20 := @ref17_Made_9
abbrev ref17_Made_21 := @ref17_Made_9
def ref17_Made_19 (n : Nat) (go0 : ref17_Made_s0 → Option ref17_Made_a) (v8 v9 v15 : Int) (v16 : Lv) (v23 v24 v25 : Int) (v26 : Bool) (v27 : Lv) (v31 v35 : Int) : Option ref17_Made_a :=
  (bif (decide (v35 < 7)) then bif (decide ((((v16.length : Int) + 1) * 72) ≤ 140737488355328)) then bif ((decide ((-9223372036854775808) ≤ (((v16.length : Int) + 1) - 1))) && (decide ((((v16.length : Int) + 1) - 1) ≤ 9223372036854775807))) then (iterF (fun go1 s => ref17_Made_20 n go0 go1 v15 s.1 s.2) n (((((v16.length : Int) + 1) - 1), (v16 ++ [[(AV.int v8), (AV.int v9), (AV.int (Int.tmod (v23 + 1) 8)), (AV.int v31), (AV.int v25), (AV.bool v26), (AV.sl (.cons .int (.cons .int (.cons .int .nil))) v27)]])) : ref17_Made_s0)) else none else none
  else bif (decide ((((v16.length : Int) + 1) * 72) ≤ 140737488355328)) then bif ((decide ((-9223372036854775808) ≤ (((v16.length : Int) + 1) - 1))) && (decide ((((v16.length : Int) + 1) - 1) ≤ 9223372036854775807))) then (iterF (fun go1 s => ref17_Made_21 n go0 go1 v15 s.1 s.2) n (((((v16.length : Int) + 1) - 1), (v16 ++ [[(AV.int v8), (AV.int v9), (AV.int (Int.tmod (v23 + 1) 8)), (AV.int v24), (AV.int v25), (AV.bool v26), (AV.sl (.cons .int (.cons .int (.cons .int .nil))) v27)]])) : ref17_Made_s0)) else none else none)
abbrev ref17_Made_22 := @ref17_Made_9
def ref17_Made_18 (n : Nat) (go0 : ref17_Made_s0 → Option ref17_Made_a) (v7 : Lv) (v8 v9 v15 : Int) (v16 : Lv) (v23 v24 v25 : Int) (v26 : Bool) (v27 : Lv) (v31 : Int) : Option ref17_Made_a :=
  (bif (decide (0 ≤ v31)) then bif ((decide ((-9223372036854775808) ≤ (Int.tdiv (cI v7 v15 7) 16))) && (decide ((Int.tdiv (cI v7 v15 7) 16) ≤ 9223372036854775807))) then (ref17_pick n (Int.tdiv (cI v7 v15 7) 16) 8).bind fun y35 =>
  ref17_Made_19 n go0 v8 v9 v15 v16 v23 v24 v25 v26 v27 v31 y35 else none
  else bif (decide ((((v16.length : Int) + 1) * 72) ≤ 140737488355328)) then bif ((decide ((-9223372036854775808) ≤ (((v16.length : Int) + 1) - 1))) && (decide ((((v16.length : Int) + 1) - 1) ≤ 9223372036854775807))) then (iterF (fun go1 s => ref17_Made_22 n go0 go1 v15 s.1 s.2) n (((((v16.length : Int) + 1) - 1), (v16 ++ [[(AV.int v8), (AV.int v9), (AV.int (Int.tmod (v23 + 1) 8)), (AV.int v24), (AV.int v25), (AV.bool v26), (AV.sl (.cons .int (.cons .int (.cons .int .nil))) v27)]])) : ref17_Made_s0)) else none else none)
abbrev ref17_Made_25 := @ref17_Made_9
abbrev ref17_Made_26 := @ref17_Made_9
def ref17_Made_24 (n : Nat) (go0 : ref17_Made_s0 → Option ref17_Made_a) (v8 v9 v15 : Int) (v16 : Lv) (v23 v24 v25 : Int) (v26 : Bool) (v27 : Lv) (v31 v35 : Int) : Option ref17_Made_a :=
  (bif (decide (v35 < 7)) then bif (decide ((((v16.length : Int) + 1) * 72) ≤ 140737488355328)) then bif ((decide ((-9223372036854775808) ≤ (((v16.length : Int) + 1) - 1))) && (decide ((((v16.length : Int) + 1) - 1) ≤ 9223372036854775807))) then (iterF (fun go1 s => ref17_Made_25 n go0 go1 v15 s.1 s.2) n (((((v16.length : Int) + 1) - 1), (v16 ++ [[(AV.int v8), (AV.int v9), (AV.int v23), (AV.int v31), (AV.int v25), (AV.bool v26), (AV.sl (.cons .int (.cons .int (.cons .int .nil))) v27)]])) : ref17_Made_s0)) else none else none
  else bif (decide ((((v16.length : Int) + 1) * 72) ≤ 140737488355328)) then bif ((decide ((-9223372036854775808) ≤ (((v16.length : Int) + 1) - 1))) && (decide ((((v16.length : Int) + 1) - 1) ≤ 9223372036854775807))) then (iterF (fun go1 s => ref17_Made_26 n go0 go1 v15 s.1 s.2) n (((((v16.length : Int) + 1) - 1), (v16 ++ [[(AV.int v8), (AV.int v9), (AV.int v23), (AV.int v24), (AV.int v25), (AV.bool v26), (AV.sl (.cons .int (.cons .int (.cons .int .nil))) v27)]])) : ref17_Made_s0)) else none else none)
abbrev ref17_Made_27 := @ref17_Made_9
def ref17_Made_23 (n : Nat) (go0 : ref17_Made_s0 → Option ref17_Made_a) (v7 : Lv) (v8 v9 v15 : Int) (v16 : Lv) (v23 v24 v25 : Int) (v26 : Bool) (v27 : Lv) (v31 : Int) : Option ref17_Made_a :=
  (bif (decide (0 ≤ v31)) then bif ((decide ((-9223372036854775808) ≤ (Int.tdiv (cI v7 v15 7) 16))) && (decide ((Int.tdiv (cI v7 v15 7) 16) ≤ 9223372036854775807))) then (ref17_pick n (Int.tdiv (cI v7 v15 7) 16) 8).bind fun y35 =>
  ref17_Made_24 n go0 v8 v9 v15 v16 v23 v24 v25 v26 v27 v31 y35 else none
  else bif (decide ((((v16.length : Int) + 1) * 72) ≤ 140737488355328)) then bif ((decide ((-9223372036854775808) ≤ (((v16.length : Int) + 1) - 1))) && (decide ((((v16.length : Int) + 1) - 1) ≤ 9223372036854775807))) then (iterF (fun go1 s => ref17_Made_27 n go0 go1 v15 s.1 s.2) n (((((v16.length : Int) + 1) - 1), (v16 ++ [[(AV.int v8), (AV.int v9), (AV.int v23), (AV.int v24), (AV.int v25), (AV.bool v26), (AV.sl (.cons .int (.cons .int (.cons .int .nil))) v27)]])) : ref17_Made_s0)) else none else none)
def ref17_Made_17 (n : Nat) (go0 : ref17_Made_s0 → Option ref17_Made_a) (v7 : Lv) (v8 v9 : Int) (v14 : Lv) (v15 : Int) (v16 : Lv) (v23 v24 v25 : Int) (v26 : Bool) (v27 : Lv) : Option ref17_Made_a :=
  (bif (decide (v9 = v23)) then bif ((decide ((-9223372036854775808) ≤ (v23 + 1))) && (decide ((v23 + 1) ≤ 9223372036854775807))) then (ref14_At n v14 v25).bind fun y30 =>
  ref17_Made_18 n go0 v7 v8 v9 v15 v16 v23 v24 v25 v26 v27 y30.2.1 else none
  else (ref14_At n v14 v25).bind fun y30 =>
  ref17_Made_23 n go0 v7 v8 v9 v15 v16 v23 v24 v25 v26 v27 y30.2.1)
def ref17_Made_5 (n : Nat) (go0 : ref17_Made_s0 → Option ref17_Made_a) (v7 : Lv) (v8 v9 : Int) (v14 : Lv) (v15 : Int) (v16 : Lv) (v23 v24 v25 : Int) (v26 : Bool) (v27 : Lv) (v28 : Int) : Option ref17_Made_a :=
  (bif (decide (0 < ((v16.length : Int) - v28))) then bif ((decide ((-9223372036854775808) ≤ (((v16.length : Int) - v28) - 1))) && (decide ((((v16.length : Int) - v28) - 1) ≤ 9223372036854775807))) then bif (decide (0 ≤ (((v16.length : Int) - v28) - 1))) then bif (decide ((((v16.length : Int) - v28) - 1) < (v16.length : Int))) then ref17_Made_6 n go0 v7 v8 v14 v15 v16 v23 v24 v25 v26 v27 v28 else none else none else none
  else ref17_Made_17 n go0 v7 v8 v9 v14 v15 v16 v23 v24 v25 v26 v27)
abbrev ref17_Made_31 := @ref17_Made_9
abbrev ref17_Made_32 := @ref17_Made_9
def ref17_Made_30 (n : Nat) (go0 : ref17_Made_s0 → Option ref17_Made_a) (v8 v15 : Int) (v16 : Lv) (v22 v23 v24 v25 : Int) (v26 : Bool) (v27 : Lv) (v31 v35 : Int) : Option ref17_Made_a :=
  (bif (decide (v35 < 7)) then bif (decide ((((v16.length : Int) + 1) * 72) ≤ 140737488355328)) then bif ((decide ((-9223372036854775808) ≤ (((v16.length : Int) + 1) - 1))) && (decide ((((v16.length : Int) + 1) - 1) ≤ 9223372036854775807))) then (iterF (fun go1 s => ref17_Made_31 n go0 go1 v15 s.1 s.2) n (((((v16.length : Int) + 1) - 1), (v16 ++ [[(AV.int v8), (AV.int v22), (AV.int (Int.tmod (v23 + 1) 8)), (AV.int v31), (AV.int v25), (AV.bool v26), (AV.sl (.cons .int (.cons .int (.cons .int .nil))) v27)]])) : ref17_Made_s0)) else none else none
  else bif (decide ((((v16.length : Int) + 1) * 72) ≤ 140737488355328)) then bif ((decide ((-9223372036854775808) ≤ (((v16.length : Int) + 1) - 1))) && (decide ((((v16.length : Int) + 1) - 1) ≤ 9223372036854775807))) then (iterF (fun go1 s => ref17_Made_32 n go0 go1 v15 s.1 s.2) n (((((v16.length : Int) + 1) - 1), (v16 ++ [[(AV.int v8), (AV.int v22), (AV.int (Int.tmod (v23 + 1) 8)), (AV.int v24), (AV.int v25), (AV.bool v26), (AV.sl (.cons .int (.cons .int (.cons .int .nil))) v27)]])) : ref17_Made_s0)) else none else none)
abbrev ref17_Made_33 := @ref17_Made_9
def ref17_Made_29 (n : Nat) (go0 : ref17_Made_s0 → Option ref17_Made_a) (v7 : Lv) (v8 v15 : Int) (v16 : Lv) (v22 v23 v24 v25 : Int) (v26 : Bool) (v27 : Lv) (v31 : Int) : Option ref17_Made_a :=
  (bif (decide (0 ≤ v31)) then bif ((decide ((-9223372036854775808) ≤ (Int.tdiv (cI v7 v15 7) 16))) && (decide ((Int.tdiv (cI v7 v15 7) 16) ≤ 9223372036854775807))) then (ref17_pick n (Int.tdiv (cI v7 v15 7) 16) 8).bind fun y35 =>
  ref17_Made_30 n go0 v8 v15 v16 v22 v23 v24 v25 v26 v27 v31 y35 else none
  else bif (decide ((((v16.length : Int) + 1) * 72) ≤ 140737488355328)) then bif ((decide ((-9223372036854775808) ≤ (((v16.length : Int) + 1) - 1))) && (decide ((((v16.length : Int) + 1) - 1) ≤ 9223372036854775807))) then (iterF (fun go1 s => ref17_Made_33 n go0 go1 v15 s.1 s.2) n (((((v16.length : Int) + 1) - 1), (v16 ++ [[(AV.int v8), (AV.int v22), (AV.int (Int.tmod (v23 + 1) 8)), (AV.int v24), (AV.int v25), (AV.bool v26), (AV.sl (.cons .int (.cons .int (.cons .int .nil))) v27)]])) : ref17_Made_s0)) else none else none)
abbrev ref17_Made_36 := @ref17_Made_9
abbrev ref17_Made_37 := @ref17_Made_9
def ref17_Made_35 (n : Nat) (go0 : ref17_Made_s0 → Option ref17_Made_a) (v8 v15 : Int) (v16 : Lv) (v22 v23 v24 v25 : Int) (v26 : Bool) (v27 : Lv) (v31 v35 : Int) : Option ref17_Made_a :=
  (bif (decide (v35 < 7)) then bif (decide ((((v16.length : Int) + 1) * 72) ≤ 140737488355328)) then bif ((decide ((-9223372036854775808) ≤ (((v16.length : Int) + 1) - 1))) && (decide ((((v16.length : Int) + 1) - 1) ≤ 9223372036854775807))) then (iterF (fun go1 s => ref17_Made_36 n go0 go1 v15 s.1 s.2) n (((((v16.length : Int) + 1) - 1), (v16 ++ [[(AV.int v8), (AV.int v22), (AV.int v23), (AV.int v31), (AV.int v25), (AV.bool v26), (AV.sl (.cons .int (.cons .int (.cons .int .nil))) v27)]])) : ref17_Made_s0)) else none else none
  else bif (decide ((((v16.length : Int) + 1) * 72) ≤ 140737488355328)) then bif ((decide ((-9223372036854775808) ≤ (((v16.length : Int) + 1) - 1))) && (decide ((((v16.length : Int) + 1) - 1) ≤ 9223372036854775807))) then (iterF (fun go1 s => ref17_Made_37 n go0 go1 v15 s.1 s.2) n (((((v16.length : Int) + 1) - 1), (v16 ++ [[(AV.int v8), (AV.int v22), (AV.int v23), (AV.int v24), (AV.int v25), (AV.bool v26), (AV.sl (.cons .int (.cons .int (.cons .int .nil))) v27)]])) : ref17_Made_s0)) else none else none)
abbrev ref17_Made_38 := @ref17_Made_9
def ref17_Made_34 (n : Nat) (go0 : ref17_Made_s0 → Option ref17_Made_a) (v7 : Lv) (v8 v15 : Int) (v16 : Lv) (v22 v23 v24 v25 : Int) (v26 : Bool) (v27 : Lv) (v31 : Int) : Option ref17_Made_a :=
  (bif (decide (0 ≤ v31)) then bif ((decide ((-9223372036854775808) ≤ (Int.tdiv (cI v7 v15 7) 16))) && (decide ((Int.tdiv (cI v7 v15 7) 16) ≤ 9223372036854775807))) then (ref17_pick n (Int.tdiv (cI v7 v15 7) 16) 8).bind fun y35 =>
  ref17_Made_35 n go0 v8 v15 v16 v22 v23 v24 v25 v26 v27 v31 y35 else none
  else bif (decide ((((v16.length : Int) + 1) * 72) ≤ 140737488355328)) then bif ((decide ((-9223372036854775808) ≤ (((v16.length : Int) + 1) - 1))) && (decide ((((v16.length : Int) + 1) - 1) ≤ 9223372036854775807))) then (iterF (fun go1 s => ref17_Made_38 n go0 go1 v15 s.1 s.2) n (((((v16.length : Int) + 1) - 1), (v16 ++ [[(AV.int v8), (AV.int v22), (AV.int v23), (AV.int v24), (AV.int v25), (AV.bool v26), (AV.sl (.cons .int (.cons .int (.cons .int .nil))) v27)]])) : ref17_Made_s0)) else none else none)
def ref17_Made_28 (n : Nat) (go0 : ref17_Made_s0 → Option ref17_Made_a) (v7 : Lv) (v8 : Int) (v14 : Lv) (v15 : Int) (v16 : Lv) (v22 v23 v24 v25 : Int) (v26 : Bool) (v27 : Lv) : Option ref17_Made_a :=
  (bif (decide (v22 = v23)) then bif ((decide ((-9223372036854775808) ≤ (v23 + 1))) && (decide ((v23 + 1) ≤ 9223372036854775807))) then (ref14_At n v14 v25).bind fun y30 =>
  ref17_Made_29 n go0 v7 v8 v15 v16 v22 v23 v24 v25 v26 v27 y30.2.1 else none
  else (ref14_At n v14 v25).bind fun y30 =>
  ref17_Made_34 n go0 v7 v8 v15 v16 v22 v23 v24 v25 v26 v27 y30.2.1)
def ref17_Made_4 (n : Nat) (go0 : ref17_Made_s0 → Option ref17_Made_a) (v7 : Lv) (v8 v9 : Int) (v14 : Lv) (v15 : Int) (v16 : Lv) (v22 v23 v24 v25 : Int) (v26 : Bool) (v27 : Lv) (v28 v29 : Int) : Option ref17_Made_a :=
  (bif (decide (v29 < 15)) then ref17_Made_5 n go0 v7 v8 v9 v14 v15 v16 v23 v24 v25 v26 v27 v28
  else ref17_Made_28 n go0 v7 v8 v14 v15 v16 v22 v23 v24 v25 v26 v27)
def ref17_Made_3 (n : Nat) (go0 : ref17_Made_s0 → Option ref17_Made_a) (v2 v3 v4 v5 : Int) (v7 : Lv) (v8 v9 v10 v11 v12 v13 : Int) (v14 : Lv) (v15 : Int) (v16 : Lv) : Option ref17_Made_a :=
  (bif (decide (v15 < 5)) then bif (decide (0 ≤ v15)) then (ref16_Made n v2 v3 v4 v5 (cI v7 v15 0) (cI v7 v15 1) (cI v7 v15 2) (cI v7 v15 3) (cI v7 v15 4) (cI v7 v15 5) (cL v7 v15 6)).bind fun y17 =>
  (ref17_pick n (cI v7 v15 7) 3).bind fun y28 =>
  bif ((decide ((-9223372036854775808) ≤ ((v16.length : Int) - y28))) && (decide (((v16.length : Int) - y28) ≤ 9223372036854775807))) then (ref17_pick n (cI v7 v15 7) 16).bind fun y29 =>
  ref17_Made_4 n go0 v7 v8 v9 v14 v15 v16 y17.2.2.2.2.2.1 y17.2.2.2.2.2.2.1 y17.2.2.2.2.2.2.2.1 y17.2.2.2.2.2.2.2.2.1 y17.2.2.2.2.2.2.2.2.2.1 y17.2.2.2.2.2.2.2.2.2.2 y28 y29 else none else none
  else some (v8, v9, v10, v11, v12, v13, v14, v16))
def ref17_Made_2 (n : Nat) (go0 : ref17_Made_s0 → Option ref17_Made_a) (v2 v3 v4 v5 : Int) (v7 : Lv) (v8 v9 v10 v11 v12 v13 : Int) (v14 : Lv) (v15 : Int) (v16 : Lv) : Option ref17_Made_a :=
  (bif (decide (v15 < (v7.length : Int))) then ref17_Made_3 n go0 v2 v3 v4 v5 v7 v8 v9 v10 v11 v12 v13 v14 v15 v16
  else some (v8, v9, v10, v11, v12, v13, v14, v16))
def ref17_Made_1 (n : Nat) (v0 v1 v2 v3 v4 v5 : Int) (v6 v7 : Lv) : Option ref17_Made_a :=
  (ref17_pick n v0 100000000).bind fun y8 =>
  (ref17_pick n v1 8).bind fun y9 =>
  (ref16_MadeRules n v2 v3 v4 v5).bind fun y10 =>
  (ref14_Made n v6).bind fun y14 =>
  (iterF (fun go0 s => ref17_Made_2 n go0 v2 v3 v4 v5 v7 y8 y9 y10.1 y10.2.1 y10.2.2.1 y10.2.2.2 y14 s.1 s.2) n ((0, ([] : Lv)) : ref17_Made_s0))
def ref17_Made (n : Nat) (v0 v1 v2 v3 v4 v5 : Int) (v6 v7 : Lv) : Option ref17_Made_a := ref17_Made_1 n v0 v1 v2 v3 v4 v5 v6 v7
def ref17_Made_t : FnT := ⟨[(true, [.int, .int, .int, .int, .int, .int, (.sl (.cons .int (.cons .int (.cons .int .nil)))), (.sl (.cons .int (.cons .int (.cons .int (.cons .int (.cons .int (.cons .int (.cons (.sl (.cons .int (.cons .int (.cons .int .nil)))) (.cons .int .nil)))))))))])], (.agg (.cons .i (.cons .i (.cons .i (.cons .i (.cons .i (.cons .i (.cons (.row 80 (.cons .int (.cons .int (.cons .int .nil)))) (.cons (.row 51 (.cons .int (.cons .int (.cons .int (.cons .int (.cons .int (.cons .bool (.cons (.sl (.cons .int (.cons .int (.cons .int .nil)))) .nil)))))))) .nil))))))))), fun n (s : Int × Int × Int × Int × Int × Int × Lv × Lv) => ref17_Made n s.1 s.2.1 s.2.2.1 s.2.2.2.1 s.2.2.2.2.1 s.2.2.2.2.2.1 s.2.2.2.2.2.2.1 s.2.2.2.2.2.2.2⟩
theorem ref17_Made_ok : ref17_Made_t.ok Try.prog 13 := FnT.ok_of (cfg := ⟨[((13, 3, 5), .inv [(.tmp 4 .int), (.cellrow 3 7 51 (.cons .int (.cons .int (.cons .int (.cons .int (.cons .int (.cons .bool (.cons (.sl (.cons .int (.cons .int (.cons .int .nil)))) .nil))))))))]), ((13, 20, 24), .inv [(.tmp 12 .int), (.cellrow 3 7 51 (.cons .int (.cons .int (.cons .int (.cons .int (.cons .int (.cons .bool (.cons (.sl (.cons .int (.cons .int (.cons .int .nil)))) .nil))))))))]), ((13, 20, 23), .inv [(.tmp 12 .int), (.cellrow 3 7 51 (.cons .int (.cons .int (.cons .int (.cons .int (.cons .int (.cons .bool (.cons (.sl (.cons .int (.cons .int (.cons .int .nil)))) .nil))))))))]), ((13, 20, 22), .inv [(.tmp 12 .int), (.cellrow 3 7 51 (.cons .int (.cons .int (.cons .int (.cons .int (.cons .int (.cons .bool (.cons (.sl (.cons .int (.cons .int (.cons .int .nil)))) .nil))))))))]), ((13, 20, 21), .inv [(.tmp 12 .int), (.cellrow 3 7 51 (.cons .int (.cons .int (.cons .int (.cons .int (.cons .int (.cons .bool (.cons (.sl (.cons .int (.cons .int (.cons .int .nil)))) .nil))))))))]), ((13, 20, 20), .inv [(.tmp 12 .int), (.cellrow 3 7 51 (.cons .int (.cons .int (.cons .int (.cons .int (.cons .int (.cons .bool (.cons (.sl (.cons .int (.cons .int (.cons .int .nil)))) .nil))))))))])], consD5, [], mapsD5⟩) (tab := ref17_pick_T) (mt := mtE) pfit ref17_pick_T_ok mtE_ok (fun s fn hf => by rw [Try.func13] at hf; cases hf; kernel_rfl) (fun n s => by kernel_rfl)
def ref17_Made_T : Tab := (13, ref17_Made_t) :: ref17_pick_T
theorem ref17_Made_T_ok : ref17_Made_T.ok Try.prog := Tab.ok_cons ref17_Made_ok ref17_pick_T_ok
/-! dialtone/dialtoneref17.Time -/
abbrev ref17_Time_a := Int
abbrev ref17_Time_s0 := Lv × Int
def ref17_Time_3 (n : Nat) (go0 : ref17_Time_s0 → Option ref17_Time_a) (go1 : ref17_Time_s0 → Option ref17_Time_a) (v10 : Int) (v11 v13 : Lv) (v14 : Int) : Option ref17_Time_a :=
  (bif (decide (v14 < (v11.length : Int))) then bif (decide (0 ≤ v14)) then bif (decide ((((v13.length : Int) + 1) * 8) ≤ 140737488355328)) then bif ((decide ((-9223372036854775808) ≤ (v14 + 1))) && (decide ((v14 + 1) ≤ 9223372036854775807))) then go1 ((v13 ++ [[(AV.int (cI v11 v14 1))]]), (v14 + 1)) else none else none else none
  else bif ((decide ((-9223372036854775808) ≤ (v10 + 1))) && (decide ((v10 + 1) ≤ 9223372036854775807))) then go0 (v13, (v10 + 1)) else none)
def ref17_Time_2 (n : Nat) (go0 : ref17_Time_s0 → Option ref17_Time_a) (v2 v3 v4 v5 : Int) (v7 : Lv) (v8 : Int) (v9 : Lv) (v10 : Int) : Option ref17_Time_a :=
  (bif (decide (v10 < (v7.length : Int))) then bif (decide (0 ≤ v10)) then (ref16_Timeline n v2 v3 v4 v5 (cI v7 v10 0) (cI v7 v10 1) (cI v7 v10 2) (cI v7 v10 3) (cI v7 v10 4) (cB v7 v10 5) (cL v7 v10 6)).bind fun y11 =>
  (iterF (fun go1 s => ref17_Time_3 n go0 go1 v10 y11.1 s.1 s.2) n ((v9, 0) : ref17_Time_s0)) else none
  else bif (decide (((((v9.length : Int) + 1) + 1) * 8) ≤ 140737488355328)) then (ref17_pick n v8 (((v9.length : Int) + 1) + 1)).bind fun y11 =>
  bif (decide (0 ≤ y11)) then bif (decide (y11 < (((v9.length : Int) + 1) + 1))) then bif ((decide ((-9223372036854775808) ≤ (Int.tdiv v8 64))) && (decide ((Int.tdiv v8 64) ≤ 9223372036854775807))) then (ref17_pick n (Int.tdiv v8 64) 3).bind fun y12 =>
  bif ((decide ((-9223372036854775808) ≤ ((cI ((v9 ++ [[(AV.int 0)]]) ++ [[(AV.int 20000000)]]) y11 0) + y12))) && (decide (((cI ((v9 ++ [[(AV.int 0)]]) ++ [[(AV.int 20000000)]]) y11 0) + y12) ≤ 9223372036854775807))) then bif ((decide ((-9223372036854775808) ≤ (((cI ((v9 ++ [[(AV.int 0)]]) ++ [[(AV.int 20000000)]]) y11 0) + y12) - 1))) && (decide ((((cI ((v9 ++ [[(AV.int 0)]]) ++ [[(AV.int 20000000)]]) y11 0) + y12) - 1) ≤ 9223372036854775807))) then some (imin (imax (((cI ((v9 ++ [[(AV.int 0)]]) ++ [[(AV.int 20000000)]]) y11 0) + y12) - 1) 0) 20000000) else none else none else none else none else none else none)
def ref17_Time_1 (n : Nat) (v2 v3 v4 v5 : Int) (v7 : Lv) (v8 : Int) : Option ref17_Time_a :=
  (iterF (fun go0 s => ref17_Time_2 n go0 v2 v3 v4 v5 v7 v8 s.1 s.2) n ((([] : Lv), 0) : ref17_Time_s0))
def ref17_Time (n : Nat) (v0 v1 v2 v3 v4 v5 : Int) (v6 v7 : Lv) (v8 : Int) : Option ref17_Time_a := ref17_Time_1 n v2 v3 v4 v5 v7 v8
def ref17_Time_t : FnT := ⟨[(true, [.int, .int, .int, .int, .int, .int, (.sl (.cons .int (.cons .int (.cons .int .nil)))), (.sl (.cons .int (.cons .int (.cons .int (.cons .int (.cons .int (.cons .bool (.cons (.sl (.cons .int (.cons .int (.cons .int .nil)))) .nil))))))))]), (false, [.int])], .i, fun n (s : Int × Int × Int × Int × Int × Int × Lv × Lv × Int) => ref17_Time n s.1 s.2.1 s.2.2.1 s.2.2.2.1 s.2.2.2.2.1 s.2.2.2.2.2.1 s.2.2.2.2.2.2.1 s.2.2.2.2.2.2.2.1 s.2.2.2.2.2.2.2.2⟩
theorem ref17_Time_ok : ref17_Time_t.ok Try.prog 14 := FnT.ok_of (cfg := ⟨[((14, 3, 1), .inv [(.tmprow 5 3 (.cons .int .nil)), (.tmp 6 .int)]), ((14, 7, 4), .inv [(.tmprow 5 3 (.cons .int .nil)), (.tmp 9 .int)])], consD5, [], mapsD5⟩) (tab := ref17_Made_T) (mt := mtE) pfit ref17_Made_T_ok mtE_ok (fun s fn hf => by rw [Try.func14] at hf; cases hf; kernel_rfl) (fun n s => by kernel_rfl)
def ref17_Time_T : Tab := (14, ref17_Time_t) :: ref17_Made_T
theorem ref17_Time_T_ok : ref17_Time_T.ok Try.prog := Tab.ok_cons ref17_Time_ok ref17_Made_T_ok
/-! dialtone/dialtoneref17.Copy -/
abbrev ref17_Copy_a := Int × Int × Int × Int × Int × Int × Lv × Lv
abbrev ref17_Copy_s0 := Int × Lv
def ref17_Copy_2 (n : Nat) (go0 : ref17_Copy_s0 → Option ref17_Copy_a) (v0 v1 v2 v3 v4 v5 : Int) (v6 v7 : Lv) (v8 : Int) (v9 : Lv) : Option ref17_Copy_a :=
  (bif (decide (v8 < (v7.length : Int))) then bif (decide (0 ≤ v8)) then bif (decide ((((cL v7 v8 6).length : Int) * 24) ≤ 140737488355328)) then bif (decide ((((v9.length : Int) + 1) * 72) ≤ 140737488355328)) then bif ((decide ((-9223372036854775808) ≤ (v8 + 1))) && (decide ((v8 + 1) ≤ 9223372036854775807))) then go0 ((v8 + 1), (v9 ++ [[(AV.int (cI v7 v8 0)), (AV.int (cI v7 v8 1)), (AV.int (cI v7 v8 2)), (AV.int (cI v7 v8 3)), (AV.int (cI v7 v8 4)), (AV.bool (cB v7 v8 5)), (AV.sl (.cons .int (.cons .int (.cons .int .nil))) (cL v7 v8 6))]])) else none else none else none else none
  else some (v0, v1, v2, v3, v4, v5, v6, v9))
def ref17_Copy_1 (n : Nat) (v0 v1 v2 v3 v4 v5 : Int) (v6 v7 : Lv) : Option ref17_Copy_a :=
  bif (decide (((v6.length : Int) * 24) ≤ 140737488355328)) then (iterF (fun go0 s => ref17_Copy_2 n go0 v0 v1 v2 v3 v4 v5 v6 v7 s.1 s.2) n ((0, ([] : Lv)) : ref17_Copy_s0)) else none
def ref17_Copy (n : Nat) (v0 v1 v2 v3 v4 v5 : Int) (v6 v7 : Lv) : Option ref17_Copy_a := ref17_Copy_1 n v0 v1 v2 v3 v4 v5 v6 v7
def ref17_Copy_t : FnT := ⟨[(true, [.int, .int, .int, .int, .int, .int, (.sl (.cons .int (.cons .int (.cons .int .nil)))), (.sl (.cons .int (.cons .int (.cons .int (.cons .int (.cons .int (.cons .bool (.cons (.sl (.cons .int (.cons .int (.cons .int .nil)))) .nil))))))))])], (.agg (.cons .i (.cons .i (.cons .i (.cons .i (.cons .i (.cons .i (.cons (.row 80 (.cons .int (.cons .int (.cons .int .nil)))) (.cons (.row 51 (.cons .int (.cons .int (.cons .int (.cons .int (.cons .int (.cons .bool (.cons (.sl (.cons .int (.cons .int (.cons .int .nil)))) .nil)))))))) .nil))))))))), fun n (s : Int × Int × Int × Int × Int × Int × Lv × Lv) => ref17_Copy n s.1 s.2.1 s.2.2.1 s.2.2.2.1 s.2.2.2.2.1 s.2.2.2.2.2.1 s.2.2.2.2.2.2.1 s.2.2.2.2.2.2.2⟩
theorem ref17_Copy_ok : ref17_Copy_t.ok Try.prog 25 := FnT.ok_of (cfg := ⟨[((25, 5, 8), .inv [(.tmp 4 .int), (.cellrow 2 7 51 (.cons .int (.cons .int (.cons .int (.cons .int (.cons .int (.cons .bool (.cons (.sl (.cons .int (.cons .int (.cons .int .nil)))) .nil))))))))])], consD5, [], mapsD5⟩) (tab := ref17_Time_T) (mt := mtE) pfit ref17_Time_T_ok mtE_ok (fun s fn hf => by rw [Try.func25] at hf; cases hf; kernel_rfl) (fun n s => by kernel_rfl)
def ref17_Copy_T : Tab := (25, ref17_Copy_t) :: ref17_Time_T
theorem ref17_Copy_T_ok : ref17_Copy_T.ok Try.prog := Tab.ok_cons ref17_Copy_ok ref17_Time_T_ok
/-! dialtone/dialtoneref17.SameTurns -/
abbrev ref17_SameTurns_a := Bool
abbrev ref17_SameTurns_s0 := Int
def ref17_SameTurns_2 (n : Nat) (go0 : ref17_SameTurns_s0 → Option ref17_SameTurns_a) (v0 v1 : Lv) (v2 : Int) : Option ref17_SameTurns_a :=
  (bif (decide (v2 < (v0.length : Int))) then bif (decide (0 ≤ v2)) then bif (decide (v2 < (v1.length : Int))) then (bif (!((decide ((cI v0 v2 0) = (cI v1 v2 0))) && ((decide ((cI v0 v2 1) = (cI v1 v2 1))) && (decide ((cI v0 v2 2) = (cI v1 v2 2)))))) then some false
  else bif ((decide ((-9223372036854775808) ≤ (v2 + 1))) && (decide ((v2 + 1) ≤ 9223372036854775807))) then go0 (v2 + 1) else none) else none else none
  else some true)
def ref17_SameTurns_1 (n : Nat) (v0 v1 : Lv) : Option ref17_SameTurns_a :=
  (bif (!(decide ((v0.length : Int) = (v1.length : Int)))) then some false
  else (iterF (fun go0 s => ref17_SameTurns_2 n go0 v0 v1 s) n (0 : ref17_SameTurns_s0)))
def ref17_SameTurns (n : Nat) (v0 v1 : Lv) : Option ref17_SameTurns_a := ref17_SameTurns_1 n v0 v1
def ref17_SameTurns_t : FnT := ⟨[(false, [(.sl (.cons .int (.cons .int (.cons .int .nil))))]), (false, [(.sl (.cons .int (.cons .int (.cons .int .nil))))])], .b, fun n (s : Lv × Lv) => ref17_SameTurns n s.1 s.2⟩
theorem ref17_SameTurns_ok : ref17_SameTurns_t.ok Try.prog 26 := FnT.ok_of (cfg := ⟨[((26, 4, 0), .inv [(.tmp 5 .int)])], consD5, [], mapsD5⟩) (tab := ref17_Copy_T) (mt := mtE) pfit ref17_Copy_T_ok mtE_ok (fun s fn hf => by rw [Try.func26] at hf; cases hf; kernel_rfl) (fun n s => by kernel_rfl)
def ref17_SameTurns_T : Tab := (26, ref17_SameTurns_t) :: ref17_Copy_T
theorem ref17_SameTurns_T_ok : ref17_SameTurns_T.ok Try.prog := Tab.ok_cons ref17_SameTurns_ok ref17_Copy_T_ok
/-! dialtone/dialtoneref17.SameHeld -/
abbrev ref17_SameHeld_a := Bool
abbrev ref17_SameHeld_s0 := Int
def ref17_SameHeld_2 (n : Nat) (go0 : ref17_SameHeld_s0 → Option ref17_SameHeld_a) (v0 v1 : Lv) (v2 : Int) : Option ref17_SameHeld_a :=
  (bif (decide (v2 < (v0.length : Int))) then bif (decide (0 ≤ v2)) then bif (decide (v2 < (v1.length : Int))) then (bif (!((decide ((cI v0 v2 0) = (cI v1 v2 0))) && (((decide ((cI v0 v2 1) = (cI v1 v2 1))) && (decide ((cI v0 v2 2) = (cI v1 v2 2)))) == true))) then some false
  else bif ((decide ((-9223372036854775808) ≤ (v2 + 1))) && (decide ((v2 + 1) ≤ 9223372036854775807))) then go0 (v2 + 1) else none) else none else none
  else some true)
def ref17_SameHeld_1 (n : Nat) (v0 v1 : Lv) : Option ref17_SameHeld_a :=
  (bif (!(decide ((v0.length : Int) = (v1.length : Int)))) then some false
  else (iterF (fun go0 s => ref17_SameHeld_2 n go0 v0 v1 s) n (0 : ref17_SameHeld_s0)))
def ref17_SameHeld (n : Nat) (v0 v1 : Lv) : Option ref17_SameHeld_a := ref17_SameHeld_1 n v0 v1
def ref17_SameHeld_t : FnT := ⟨[(false, [(.sl (.cons .int (.cons .int (.cons .int .nil))))]), (false, [(.sl (.cons .int (.cons .int (.cons .int .nil))))])], .b, fun n (s : Lv × Lv) => ref17_SameHeld n s.1 s.2⟩
theorem ref17_SameHeld_ok : ref17_SameHeld_t.ok Try.prog 32 := FnT.ok_of (cfg := ⟨[((32, 4, 0), .inv [(.tmp 5 .int)])], consD5, [], mapsD5⟩) (tab := ref17_SameTurns_T) (mt := mtE) pfit ref17_SameTurns_T_ok mtE_ok (fun s fn hf => by rw [Try.func32] at hf; cases hf; kernel_rfl) (fun n s => by kernel_rfl)
def ref17_SameHeld_T : Tab := (32, ref17_SameHeld_t) :: ref17_SameTurns_T
theorem ref17_SameHeld_T_ok : ref17_SameHeld_T.ok Try.prog := Tab.ok_cons ref17_SameHeld_ok ref17_SameTurns_T_ok
/-! dialtone/dialtonelaw17.pick -/
abbrev law17_pick_a := Int
def law17_pick_1 (n : Nat) (v0 v1 : Int) : Option law17_pick_a :=
  (bif (decide (v0 < 0)) then bif ((decide ((-9223372036854775808) ≤ (v0 + 1))) && (decide ((v0 + 1) ≤ 9223372036854775807))) then bif ((decide ((-9223372036854775808) ≤ (0 - (v0 + 1)))) && (decide ((0 - (v0 + 1)) ≤ 9223372036854775807))) then bif (!(decide (v1 = 0))) then some (Int.tmod (0 - (v0 + 1)) v1) else none else none else none
  else bif (!(decide (v1 = 0))) then some (Int.tmod v0 v1) else none)
def law17_pick (n : Nat) (v0 v1 : Int) : Option law17_pick_a := law17_pick_1 n v0 v1
def law17_pick_t : FnT := ⟨[(false, [.int]), (false, [.int])], .i, fun n (s : Int × Int) => law17_pick n s.1 s.2⟩
theorem law17_pick_ok : law17_pick_t.ok Try.prog 18 := FnT.ok_of (cfg := ⟨[], consD5, [], mapsD5⟩) (tab := ref17_SameHeld_T) (mt := mtE) pfit ref17_SameHeld_T_ok mtE_ok (fun s fn hf => by rw [Try.func18] at hf; cases hf; kernel_rfl) (fun n s => by kernel_rfl)
def law17_pick_T : Tab := (18, law17_pick_t) :: ref17_SameHeld_T
theorem law17_pick_T_ok : law17_pick_T.ok Try.prog := Tab.ok_cons law17_pick_ok ref17_SameHeld_T_ok
/-! dialtone/dialtonelaw17.has -/
abbrev law17_has_a := Bool
abbrev law17_has_s0 := Int
def law17_has_2 (n : Nat) (go0 : law17_has_s0 → Option law17_has_a) (v0 : Lv) (v1 v2 : Int) : Option law17_has_a :=
  (bif (decide (v2 < (v0.length : Int))) then bif (decide (0 ≤ v2)) then (bif (decide ((cI v0 v2 0) = v1)) then some true
  else bif ((decide ((-9223372036854775808) ≤ (v2 + 1))) && (decide ((v2 + 1) ≤ 9223372036854775807))) then go0 (v2 + 1) else none) else none
  else some false)
def law17_has_1 (n : Nat) (v0 : Lv) (v1 : Int) : Option law17_has_a :=
  (iterF (fun go0 s => law17_has_2 n go0 v0 v1 s) n (0 : law17_has_s0))
def law17_has (n : Nat) (v0 : Lv) (v1 : Int) : Option law17_has_a := law17_has_1 n v0 v1
def law17_has_t : FnT := ⟨[(false, [(.sl (.cons .int .nil))]), (false, [.int])], .b, fun n (s : Lv × Int) => law17_has n s.1 s.2⟩
theorem law17_has_ok : law17_has_t.ok Try.prog 24 := FnT.ok_of (cfg := ⟨[((24, 2, 0), .inv [(.tmp 5 .int)])], consD5, [], mapsD5⟩) (tab := law17_pick_T) (mt := mtE) pfit law17_pick_T_ok mtE_ok (fun s fn hf => by rw [Try.func24] at hf; cases hf; kernel_rfl) (fun n s => by kernel_rfl)
def law17_has_T : Tab := (24, law17_has_t) :: law17_pick_T
theorem law17_has_T_ok : law17_has_T.ok Try.prog := Tab.ok_cons law17_has_ok law17_pick_T_ok
/-! dialtone/dialtonelaw17.example -/
abbrev law17_example_a := Int × Int × Int × Int × Int × Int × Lv × Lv
def law17_example_1 (n : Nat) (v0 : Int) (v1 v2 : Lv) : Option law17_example_a :=
  some (5, 1, 10, 5, 20, 100, (([] : Lv) ++ [[(AV.int 1), (AV.int 0), (AV.int 4)]]), (((([] : Lv) ++ [[(AV.int 5), (AV.int 1), (AV.int 2), (AV.int 4), (AV.int 100), (AV.bool false), (AV.sl (.cons .int (.cons .int (.cons .int .nil))) v1)]]) ++ [[(AV.int 5), (AV.int 2), (AV.int 3), (AV.int 4), (AV.int 105), (AV.bool false), (AV.sl (.cons .int (.cons .int (.cons .int .nil))) ([] : Lv))]]) ++ [[(AV.int 5), (AV.int 1), (AV.int 5), (AV.int 4), (AV.int v0), (AV.bool false), (AV.sl (.cons .int (.cons .int (.cons .int .nil))) v2)]]))
def law17_example (n : Nat) (v0 : Int) (v1 v2 : Lv) : Option law17_example_a := law17_example_1 n v0 v1 v2
def law17_example_t : FnT := ⟨[(false, [.int]), (false, [(.sl (.cons .int (.cons .int (.cons .int .nil))))]), (false, [(.sl (.cons .int (.cons .int (.cons .int .nil))))])], (.agg (.cons .i (.cons .i (.cons .i (.cons .i (.cons .i (.cons .i (.cons (.row 80 (.cons .int (.cons .int (.cons .int .nil)))) (.cons (.row 51 (.cons .int (.cons .int (.cons .int (.cons .int (.cons .int (.cons .bool (.cons (.sl (.cons .int (.cons .int (.cons .int .nil)))) .nil)))))))) .nil))))))))), fun n (s : Int × Lv × Lv) => law17_example n s.1 s.2.1 s.2.2⟩
theorem law17_example_ok : law17_example_t.ok Try.prog 31 := FnT.ok_of (cfg := ⟨[], consD5, [], mapsD5⟩) (tab := law17_has_T) (mt := mtE) pfit law17_has_T_ok mtE_ok (fun s fn hf => by rw [Try.func31] at hf; cases hf; kernel_rfl) (fun n s => by kernel_rfl)
def law17_example_T : Tab := (31, law17_example_t) :: law17_has_T
theorem law17_example_T_ok : law17_example_T.ok Try.prog := Tab.ok_cons law17_example_ok law17_has_T_ok
end
end Go.Proofs.Ytjllgiddmeiaoaa
