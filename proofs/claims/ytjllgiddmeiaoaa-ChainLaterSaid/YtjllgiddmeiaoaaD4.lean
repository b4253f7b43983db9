/-
  Plain functions for functions of the program, each with its contract (printed by decomp2.py).
-/
import Derived.Test.YtjllgiddmeiaoaaD3
set_option linter.unusedSimpArgs false
set_option linter.unusedVariables false
set_option maxRecDepth 100000
namespace Go.Proofs.Ytjllgiddmeiaoaa
open Go Go.Sx
noncomputable section
def consD4 : List Nat := [12, 13, 14, 15, 16, 17, 18, 19, 20, 21, 22, 23, 24, 25, 26, 27, 28, 29, 30, 31, 32, 33, 34, 35, 36, 37, 38, 41, 42, 43, 47, 49, 50, 52, 53, 54, 56, 57, 58, 61, 64, 79, 80, 82, 83, 84, 86, 87, 88, 89, 90, 100, 101, 106]
def mapsD4 : List (Nat × SV × SV) := [(69, SV.of [.agg (SV.of [.vi (.int 1), .vi (.int 1)]), .agg (SV.of [.vi (.int 2), .vi (.int 1)]), .agg (SV.of [.vi (.int 3), .vi (.int 2)]), .agg (SV.of [.vi (.int 4), .vi (.int 2)]), .agg (SV.of [.vi (.int 5), .vi (.int 1)]), .agg (SV.of [.vi (.int 5), .vi (.int 2)]), .agg (SV.of [.vi (.int 5), .vi (.int 3)]), .agg (SV.of [.vi (.int 6), .vi (.int 4)])], SV.of [.vi (.int 3), .vi (.int 2), .vi (.int 3), .vi (.int 6), .vi (.int 7), .vi (.int 7), .vi (.int 7), .vi (.int 8)])]
/-! dialtone/chain.Valid -/
abbrev chain_Valid_a := Bool
abbrev chain_Valid_s0 := Int × Int
def chain_Valid_2 (n : Nat) (go0 : chain_Valid_s0 → Option chain_Valid_a) (v0 v2 v3 v4 v5 : Int) (v7 : Lv) (v14 v15 : Int) : Option chain_Valid_a :=
  (bif (decide (v15 < (v7.length : Int))) then bif (decide (0 ≤ v15)) then (bif (!(decide ((cI v7 v15 0) = v0))) then some false
  else (claim_Valid n v2 v3 v4 v5 (cI v7 v15 0) (cI v7 v15 1) (cI v7 v15 2) (cI v7 v15 3) (cI v7 v15 4) (cB v7 v15 5) (cL v7 v15 6)).bind fun y16 =>
  (bif (!y16) then some false
  else (bif (decide ((cI v7 v15 4) < v14)) then some false
  else bif ((decide ((-9223372036854775808) ≤ (v15 + 1))) && (decide ((v15 + 1) ≤ 9223372036854775807))) then go0 ((cI v7 v15 4), (v15 + 1)) else none))) else none
  else some true)
def chain_Valid_1 (n : Nat) (v0 v1 v2 v3 v4 v5 : Int) (v6 v7 : Lv) : Option chain_Valid_a :=
  (life_Run n v6).bind fun y8 =>
  (bif (!(decide (y8.2.2.2.2.2 = 0))) then some false
  else (bif (decide (0 ≤ v0)) then (bif (!(decide (v0 ≤ 99999999))) then some false
  else (bif (decide (0 ≤ v1)) then (bif (!(decide (v1 ≤ 7))) then some false
  else (bif (decide (8 < (v7.length : Int))) then some false
  else (iterF (fun go0 s => chain_Valid_2 n go0 v0 v2 v3 v4 v5 v7 s.1 s.2) n ((0, 0) : chain_Valid_s0))))
  else some false))
  else some false))
def chain_Valid (n : Nat) (v0 v1 v2 v3 v4 v5 : Int) (v6 v7 : Lv) : Option chain_Valid_a := chain_Valid_1 n v0 v1 v2 v3 v4 v5 v6 v7
def chain_Valid_t : FnT := ⟨[(true, [.int, .int, .int, .int, .int, .int, (.sl (.cons .int (.cons .int (.cons .int .nil)))), (.sl (.cons .int (.cons .int (.cons .int (.cons .int (.cons .int (.cons .bool (.cons (.sl (.cons .int (.cons .int (.cons .int .nil)))) .nil))))))))])], .b, fun n (s : Int × Int × Int × Int × Int × Int × Lv × Lv) => chain_Valid n s.1 s.2.1 s.2.2.1 s.2.2.2.1 s.2.2.2.2.1 s.2.2.2.2.2.1 s.2.2.2.2.2.2.1 s.2.2.2.2.2.2.2⟩
theorem chain_Valid_ok : chain_Valid_t.ok Try.prog 22 := FnT.ok_of (cfg := ⟨[((22, 6, 3), .inv [(.tmp 6 .int), (.tmp 39 .int)])], consD4, [], mapsD4⟩) (tab := claim_Timeline_T) (mt := mtE) pfit claim_Timeline_T_ok mtE_ok (fun s fn hf => by rw [Try.func22] at hf; cases hf; kernel_rfl) (fun n s => by kernel_rfl)
def chain_Valid_T : Tab := (22, chain_Valid_t) :: claim_Timeline_T
theorem chain_Valid_T_ok : chain_Valid_T.ok Try.prog := Tab.ok_cons chain_Valid_ok claim_Timeline_T_ok
/-! dialtone/chain.happenings -/
abbrev chain_happenings_a := Lv
abbrev chain_happenings_s0 := Lv × Int
abbrev chain_happenings_s1 := Int × Lv
abbrev chain_happenings_s2 := Unit
def chain_happenings_3 (n : Nat) (go0 : chain_happenings_s0 → Option chain_happenings_a) (go1 : chain_happenings_s0 → Option chain_happenings_a) (v9 : Int) (v10 v12 : Lv) (v13 : Int) : Option chain_happenings_a :=
  (bif (decide (v13 < (v10.length : Int))) then bif (decide (0 ≤ v13)) then (bif (decide ((cI v10 v13 0) = 4)) then bif (decide ((((v12.length : Int) + 1) * 24) ≤ 140737488355328)) then bif ((decide ((-9223372036854775808) ≤ (v13 + 1))) && (decide ((v13 + 1) ≤ 9223372036854775807))) then go1 ((v12 ++ [[(AV.int (cI v10 v13 1)), (AV.int v9), (AV.bool (decide ((cI v10 v13 0) = 8)))]]), (v13 + 1)) else none else none
  else (bif (decide ((cI v10 v13 0) = 8)) then bif (decide ((((v12.length : Int) + 1) * 24) ≤ 140737488355328)) then bif ((decide ((-9223372036854775808) ≤ (v13 + 1))) && (decide ((v13 + 1) ≤ 9223372036854775807))) then go1 ((v12 ++ [[(AV.int (cI v10 v13 1)), (AV.int v9), (AV.bool (decide ((cI v10 v13 0) = 8)))]]), (v13 + 1)) else none else none
  else bif ((decide ((-9223372036854775808) ≤ (v13 + 1))) && (decide ((v13 + 1) ≤ 9223372036854775807))) then go1 (v12, (v13 + 1)) else none)) else none
  else bif ((decide ((-9223372036854775808) ≤ (v9 + 1))) && (decide ((v9 + 1) ≤ 9223372036854775807))) then go0 (v12, (v9 + 1)) else none)
def chain_happenings_6 (n : Nat) (go0 : chain_happenings_s1 → Option chain_happenings_a) (go1 : chain_happenings_s1 → Option chain_happenings_a) (v10 v12 : Int) (v13 : Lv) : Option chain_happenings_a :=
  (bif (decide (0 < v12)) then bif (decide (0 ≤ v12)) then bif (decide (v12 < (v13.length : Int))) then bif ((decide ((-9223372036854775808) ≤ (v12 - 1))) && (decide ((v12 - 1) ≤ 9223372036854775807))) then bif (decide (0 ≤ (v12 - 1))) then bif (decide ((v12 - 1) < (v13.length : Int))) then (bif (decide ((cI v13 v12 0) < (cI v13 (v12 - 1) 0))) then (bif (decide ((cI v13 v12 1) < (cI v13 (v12 - 1) 1))) then go1 ((v12 - 1), (List.modify (List.modify (List.modify (List.modify (List.modify (List.modify v13 (v12).toNat (fun r => r.set 0 (AV.int (cI v13 (v12 - 1) 0)))) (v12).toNat (fun r => r.set 1 (AV.int (cI v13 (v12 - 1) 1)))) (v12).toNat (fun r => r.set 2 (AV.bool (cB v13 (v12 - 1) 2)))) ((v12 - 1)).toNat (fun r => r.set 0 (AV.int (cI v13 v12 0)))) ((v12 - 1)).toNat (fun r => r.set 1 (AV.int (cI v13 v12 1)))) ((v12 - 1)).toNat (fun r => r.set 2 (AV.bool (cB v13 v12 2)))))
  else (bif (decide ((cI v13 (v12 - 1) 1) < (cI v13 v12 1))) then go1 ((v12 - 1), (List.modify (List.modify (List.modify (List.modify (List.modify (List.modify v13 (v12).toNat (fun r => r.set 0 (AV.int (cI v13 (v12 - 1) 0)))) (v12).toNat (fun r => r.set 1 (AV.int (cI v13 (v12 - 1) 1)))) (v12).toNat (fun r => r.set 2 (AV.bool (cB v13 (v12 - 1) 2)))) ((v12 - 1)).toNat (fun r => r.set 0 (AV.int (cI v13 v12 0)))) ((v12 - 1)).toNat (fun r => r.set 1 (AV.int (cI v13 v12 1)))) ((v12 - 1)).toNat (fun r => r.set 2 (AV.bool (cB v13 v12 2)))))
  else go1 ((v12 - 1), (List.modify (List.modify (List.modify (List.modify (List.modify (List.modify v13 (v12).toNat (fun r => r.set 0 (AV.int (cI v13 (v12 - 1) 0)))) (v12).toNat (fun r => r.set 1 (AV.int (cI v13 (v12 - 1) 1)))) (v12).toNat (fun r => r.set 2 (AV.bool (cB v13 (v12 - 1) 2)))) ((v12 - 1)).toNat (fun r => r.set 0 (AV.int (cI v13 v12 0)))) ((v12 - 1)).toNat (fun r => r.set 1 (AV.int (cI v13 v12 1)))) ((v12 - 1)).toNat (fun r => r.set 2 (AV.bool (cB v13 v12 2)))))))
  else (bif (decide ((cI v13 (v12 - 1) 0) < (cI v13 v12 0))) then (bif (decide ((cI v13 v12 1) < (cI v13 (v12 - 1) 1))) then bif ((decide ((-9223372036854775808) ≤ (v10 + 1))) && (decide ((v10 + 1) ≤ 9223372036854775807))) then go0 ((v10 + 1), v13) else none
  else (bif (decide ((cI v13 (v12 - 1) 1) < (cI v13 v12 1))) then bif ((decide ((-9223372036854775808) ≤ (v10 + 1))) && (decide ((v10 + 1) ≤ 9223372036854775807))) then go0 ((v10 + 1), v13) else none
  else bif ((decide ((-9223372036854775808) ≤ (v10 + 1))) && (decide ((v10 + 1) ≤ 9223372036854775807))) then go0 ((v10 + 1), v13) else none))
  else (bif (decide ((cI v13 v12 1) < (cI v13 (v12 - 1) 1))) then go1 ((v12 - 1), (List.modify (List.modify (List.modify (List.modify (List.modify (List.modify v13 (v12).toNat (fun r => r.set 0 (AV.int (cI v13 (v12 - 1) 0)))) (v12).toNat (fun r => r.set 1 (AV.int (cI v13 (v12 - 1) 1)))) (v12).toNat (fun r => r.set 2 (AV.bool (cB v13 (v12 - 1) 2)))) ((v12 - 1)).toNat (fun r => r.set 0 (AV.int (cI v13 v12 0)))) ((v12 - 1)).toNat (fun r => r.set 1 (AV.int (cI v13 v12 1)))) ((v12 - 1)).toNat (fun r => r.set 2 (AV.bool (cB v13 v12 2)))))
  else (bif (decide ((cI v13 (v12 - 1) 1) < (cI v13 v12 1))) then bif ((decide ((-9223372036854775808) ≤ (v10 + 1))) && (decide ((v10 + 1) ≤ 9223372036854775807))) then go0 ((v10 + 1), v13) else none
  else bif ((decide ((-9223372036854775808) ≤ (v10 + 1))) && (decide ((v10 + 1) ≤ 9223372036854775807))) then go0 ((v10 + 1), v13) else none)))) else none else none else none else none else none
  else bif ((decide ((-9223372036854775808) ≤ (v10 + 1))) && (decide ((v10 + 1) ≤ 9223372036854775807))) then go0 ((v10 + 1), v13) else none)
def chain_happenings_5 (n : Nat) (go0 : chain_happenings_s1 → Option chain_happenings_a) (v10 : Int) (v11 : Lv) : Option chain_happenings_a :=
  (bif (decide (v10 < 20)) then (iterF (fun go1 s => chain_happenings_6 n go0 go1 v10 s.1 s.2) n ((v10, v11) : chain_happenings_s1))
  else none)
def chain_happenings_8 (n : Nat) (go0 : chain_happenings_s1 → Option chain_happenings_a) (go1 : chain_happenings_s1 → Option chain_happenings_a) (v10 v12 : Int) (v13 : Lv) : Option chain_happenings_a :=
  (bif (decide (0 < v12)) then bif (decide (0 ≤ v12)) then bif (decide (v12 < (v13.length : Int))) then bif ((decide ((-9223372036854775808) ≤ (v12 - 1))) && (decide ((v12 - 1) ≤ 9223372036854775807))) then bif (decide (0 ≤ (v12 - 1))) then bif (decide ((v12 - 1) < (v13.length : Int))) then (bif (decide ((cI v13 v12 0) < (cI v13 (v12 - 1) 0))) then (bif (decide ((cI v13 v12 1) < (cI v13 (v12 - 1) 1))) then go1 ((v12 - 1), (List.modify (List.modify (List.modify (List.modify (List.modify (List.modify v13 (v12).toNat (fun r => r.set 0 (AV.int (cI v13 (v12 - 1) 0)))) (v12).toNat (fun r => r.set 1 (AV.int (cI v13 (v12 - 1) 1)))) (v12).toNat (fun r => r.set 2 (AV.bool (cB v13 (v12 - 1) 2)))) ((v12 - 1)).toNat (fun r => r.set 0 (AV.int (cI v13 v12 0)))) ((v12 - 1)).toNat (fun r => r.set 1 (AV.int (cI v13 v12 1)))) ((v12 - 1)).toNat (fun r => r.set 2 (AV.bool (cB v13 v12 2)))))
  else (bif (decide ((cI v13 (v12 - 1) 1) < (cI v13 v12 1))) then go1 ((v12 - 1), (List.modify (List.modify (List.modify (List.modify (List.modify (List.modify v13 (v12).toNat (fun r => r.set 0 (AV.int (cI v13 (v12 - 1) 0)))) (v12).toNat (fun r => r.set 1 (AV.int (cI v13 (v12 - 1) 1)))) (v12).toNat (fun r => r.set 2 (AV.bool (cB v13 (v12 - 1) 2)))) ((v12 - 1)).toNat (fun r => r.set 0 (AV.int (cI v13 v12 0)))) ((v12 - 1)).toNat (fun r => r.set 1 (AV.int (cI v13 v12 1)))) ((v12 - 1)).toNat (fun r => r.set 2 (AV.bool (cB v13 v12 2)))))
  else go1 ((v12 - 1), (List.modify (List.modify (List.modify (List.modify (List.modify (List.modify v13 (v12).toNat (fun r => r.set 0 (AV.int (cI v13 (v12 - 1) 0)))) (v12).toNat (fun r => r.set 1 (AV.int (cI v13 (v12 - 1) 1)))) (v12).toNat (fun r => r.set 2 (AV.bool (cB v13 (v12 - 1) 2)))) ((v12 - 1)).toNat (fun r => r.set 0 (AV.int (cI v13 v12 0)))) ((v12 - 1)).toNat (fun r => r.set 1 (AV.int (cI v13 v12 1)))) ((v12 - 1)).toNat (fun r => r.set 2 (AV.bool (cB v13 v12 2)))))))
  else (bif (decide ((cI v13 (v12 - 1) 0) < (cI v13 v12 0))) then (bif (decide ((cI v13 v12 1) < (cI v13 (v12 - 1) 1))) then bif ((decide ((-9223372036854775808) ≤ (v10 + 1))) && (decide ((v10 + 1) ≤ 9223372036854775807))) then go0 ((v10 + 1), v13) else none
  else (bif (decide ((cI v13 (v12 - 1) 1) < (cI v13 v12 1))) then bif ((decide ((-9223372036854775808) ≤ (v10 + 1))) && (decide ((v10 + 1) ≤ 9223372036854775807))) then go0 ((v10 + 1), v13) else none
  else bif ((decide ((-9223372036854775808) ≤ (v10 + 1))) && (decide ((v10 + 1) ≤ 9223372036854775807))) then go0 ((v10 + 1), v13) else none))
  else (bif (decide ((cI v13 v12 1) < (cI v13 (v12 - 1) 1))) then go1 ((v12 - 1), (List.modify (List.modify (List.modify (List.modify (List.modify (List.modify v13 (v12).toNat (fun r => r.set 0 (AV.int (cI v13 (v12 - 1) 0)))) (v12).toNat (fun r => r.set 1 (AV.int (cI v13 (v12 - 1) 1)))) (v12).toNat (fun r => r.set 2 (AV.bool (cB v13 (v12 - 1) 2)))) ((v12 - 1)).toNat (fun r => r.set 0 (AV.int (cI v13 v12 0)))) ((v12 - 1)).toNat (fun r => r.set 1 (AV.int (cI v13 v12 1)))) ((v12 - 1)).toNat (fun r => r.set 2 (AV.bool (cB v13 v12 2)))))
  else (bif (decide ((cI v13 (v12 - 1) 1) < (cI v13 v12 1))) then bif ((decide ((-9223372036854775808) ≤ (v10 + 1))) && (decide ((v10 + 1) ≤ 9223372036854775807))) then go0 ((v10 + 1), v13) else none
  else bif ((decide ((-9223372036854775808) ≤ (v10 + 1))) && (decide ((v10 + 1) ≤ 9223372036854775807))) then go0 ((v10 + 1), v13) else none)))) else none else none else none else none else none
  else bif ((decide ((-9223372036854775808) ≤ (v10 + 1))) && (decide ((v10 + 1) ≤ 9223372036854775807))) then go0 ((v10 + 1), v13) else none)
def chain_happenings_9 (n : Nat) (go0 : chain_happenings_s2 → Option chain_happenings_a) : Option chain_happenings_a :=
  none
def chain_happenings_7 (n : Nat) (go0 : chain_happenings_s1 → Option chain_happenings_a) (v8 : Lv) (v10 : Int) (v11 : Lv) : Option chain_happenings_a :=
  (bif (decide (v10 < (v8.length : Int))) then (iterF (fun go1 s => chain_happenings_8 n go0 go1 v10 s.1 s.2) n ((v10, v11) : chain_happenings_s1))
  else (bif (decide (20 < (v8.length : Int))) then (iterF (fun go0 s => chain_happenings_9 n go0 ) n (() : chain_happenings_s2))
  else some v11))
def chain_happenings_4 (n : Nat) (go0 : chain_happenings_s0 → Option chain_happenings_a) (v8 : Lv) : Option chain_happenings_a :=
  (bif (decide (20 ≤ (v8.length : Int))) then (iterF (fun go0 s => chain_happenings_5 n go0 s.1 s.2) n ((1, v8) : chain_happenings_s1))
  else (iterF (fun go0 s => chain_happenings_7 n go0 v8 s.1 s.2) n ((1, v8) : chain_happenings_s1)))
def chain_happenings_2 (n : Nat) (go0 : chain_happenings_s0 → Option chain_happenings_a) (v2 v3 v4 v5 : Int) (v7 v8 : Lv) (v9 : Int) : Option chain_happenings_a :=
  (bif (decide (v9 < (v7.length : Int))) then bif (decide (0 ≤ v9)) then (claim_Timeline n v2 v3 v4 v5 (cI v7 v9 0) (cI v7 v9 1) (cI v7 v9 2) (cI v7 v9 3) (cI v7 v9 4) (cB v7 v9 5) (cL v7 v9 6)).bind fun y10 =>
  (iterF (fun go1 s => chain_happenings_3 n go0 go1 v9 y10.1 s.1 s.2) n ((v8, 0) : chain_happenings_s0)) else none
  else chain_happenings_4 n go0 v8)
def chain_happenings_1 (n : Nat) (v2 v3 v4 v5 : Int) (v7 : Lv) : Option chain_happenings_a :=
  (iterF (fun go0 s => chain_happenings_2 n go0 v2 v3 v4 v5 v7 s.1 s.2) n ((([] : Lv), 0) : chain_happenings_s0))
def chain_happenings (n : Nat) (v0 v1 v2 v3 v4 v5 : Int) (v6 v7 : Lv) : Option chain_happenings_a := chain_happenings_1 n v2 v3 v4 v5 v7
def chain_happenings_t : FnT := ⟨[(true, [.int, .int, .int, .int, .int, .int, (.sl (.cons .int (.cons .int (.cons .int .nil)))), (.sl (.cons .int (.cons .int (.cons .int (.cons .int (.cons .int (.cons .bool (.cons (.sl (.cons .int (.cons .int (.cons .int .nil)))) .nil))))))))])], (.row 132 (.cons .int (.cons .int (.cons .bool .nil)))), fun n (s : Int × Int × Int × Int × Int × Int × Lv × Lv) => chain_happenings n s.1 s.2.1 s.2.2.1 s.2.2.2.1 s.2.2.2.2.1 s.2.2.2.2.2.1 s.2.2.2.2.2.2.1 s.2.2.2.2.2.2.2⟩
theorem chain_happenings_ok : chain_happenings_t.ok Try.prog 61 := FnT.ok_of (cfg := ⟨[((103, 2, 0), .unroll 1), ((103, 7, 0), .unroll 1), ((93, 3, 0), .unroll 3), ((61, 3, 1), .inv [(.tmprow 3 132 (.cons .int (.cons .int (.cons .bool .nil)))), (.tmp 13 .int)]), ((61, 7, 6), .inv [(.tmprow 3 132 (.cons .int (.cons .int (.cons .bool .nil)))), (.tmp 30 .int)]), ((105, 1, 3), .inv [(.tmp 8 .int), (.inrow 1 132 (.cons .int (.cons .int (.cons .bool .nil))))]), ((105, 4, 5), .inv [(.tmp 9 .int), (.inrow 1 132 (.cons .int (.cons .int (.cons .bool .nil))))]), ((103, 9, 5), .inv [])], consD4, [], mapsD4⟩) (tab := chain_Valid_T) (mt := mtE) pfit chain_Valid_T_ok mtE_ok (fun s fn hf => by rw [Try.func61] at hf; cases hf; kernel_rfl) (fun n s => by kernel_rfl)
def chain_happenings_T : Tab := (61, chain_happenings_t) :: chain_Valid_T
theorem chain_happenings_T_ok : chain_happenings_T.ok Try.prog := Tab.ok_cons chain_happenings_ok chain_Valid_T_ok
end
end Go.Proofs.Ytjllgiddmeiaoaa
