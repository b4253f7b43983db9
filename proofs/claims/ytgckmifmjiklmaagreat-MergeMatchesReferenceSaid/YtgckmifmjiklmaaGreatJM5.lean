/-
  Texts of this claim, joined (part 5).
-/
import Derived.Test.YtgckmifmjiklmaaGreatJM4
set_option linter.unusedVariables false
set_option linter.unusedSimpArgs false
set_option linter.unusedSectionVars false
set_option linter.constructorNameAsVariable false
set_option maxRecDepth 100000
namespace Go.Proofs.YtgckmifmjiklmaaGreat
open Go Go.Sx
noncomputable section
def consD11 : List Nat := [11, 12, 13, 14, 15, 16, 17, 18, 19, 20, 21, 22, 23, 24, 25, 26, 27, 28, 29, 30, 31, 32, 33, 34, 35, 36, 37, 38, 40, 46, 47, 51, 52, 54, 55, 56, 57, 58, 59, 61, 62, 63, 64, 66, 67, 69, 80, 83, 87, 90, 91, 92, 95, 96, 115, 116, 121, 122, 127, 128, 164, 165, 166, 197, 198, 201, 204, 205, 216, 229, 1000012, 1000056, 1000197, 1000216, 1000229]
abbrev ref42_pick_a := Int
def ref42_pick_1 (n : Nat) (v0 v1 : Int) : Option ref42_pick_a :=
 (bif (decide (v0 < 0)) then bif ((decide ((-9223372036854775808) ≤ (v0 + 1))) && (decide ((v0 + 1) ≤ 9223372036854775807))) then bif ((decide ((-9223372036854775808) ≤ (0 - (v0 + 1)))) && (decide ((0 - (v0 + 1)) ≤ 9223372036854775807))) then bif (!(decide (v1 = 0))) then some (Int.tmod (0 - (v0 + 1)) v1) else none else none else none
 else bif (!(decide (v1 = 0))) then some (Int.tmod v0 v1) else none)
def ref42_pick (n : Nat) (v0 v1 : Int) : Option ref42_pick_a := ref42_pick_1 n v0 v1
def ref42_pick_t : FnT := ⟨[(false, [.int]), (false, [.int])], .i, fun n (s : Int × Int) => ref42_pick n s.1 s.2⟩
theorem ref42_pick_ok : ref42_pick_t.ok Tryz.prog 58 := FnT.ok_of (cfg := ⟨[], consD11, [], []⟩) (tab := merge_Debts_T) (mt := mt0) pfit merge_Debts_T_ok mt0_ok (fun s fn hf => by rw [Tryz.func58] at hf; cases hf; kernel_rfl) (fun n s => by kernel_rfl)
def ref42_pick_T : Tab := (58, ref42_pick_t) :: merge_Debts_T
theorem ref42_pick_T_ok : ref42_pick_T.ok Tryz.prog := Tab.ok_cons ref42_pick_ok merge_Debts_T_ok
abbrev ref42_Ints_a := Bool
abbrev ref42_Ints_s0 := Int
def ref42_Ints_2 (n : Nat) (go0 : ref42_Ints_s0 → Option ref42_Ints_a) (v0 v1 : Lv) (v2 : Int) : Option ref42_Ints_a :=
 (bif (decide (v2 < (v0.length : Int))) then bif (decide (0 ≤ v2)) then bif (decide (v2 < (v1.length : Int))) then (bif (!(decide ((cI v0 v2 0) = (cI v1 v2 0)))) then some false
 else bif ((decide ((-9223372036854775808) ≤ (v2 + 1))) && (decide ((v2 + 1) ≤ 9223372036854775807))) then go0 (v2 + 1) else none) else none else none
 else some true)
def ref42_Ints_1 (n : Nat) (v0 v1 : Lv) : Option ref42_Ints_a :=
 (bif (!(decide ((v0.length : Int) = (v1.length : Int)))) then some false
 else (iterF (fun go0 s => ref42_Ints_2 n go0 v0 v1 s) n (0 : ref42_Ints_s0)))
def ref42_Ints (n : Nat) (v0 v1 : Lv) : Option ref42_Ints_a := ref42_Ints_1 n v0 v1
def ref42_Ints_t : FnT := ⟨[(false, [(.sl (.cons .int .nil))]), (false, [(.sl (.cons .int .nil))])], .b, fun n (s : Lv × Lv) => ref42_Ints n s.1 s.2⟩
theorem ref42_Ints_ok : ref42_Ints_t.ok Tryz.prog 34 := FnT.ok_of (cfg := ⟨[((34, 4, 0), .inv [(.tmp 5 .int)])], consD11, [], []⟩) (tab := ref42_pick_T) (mt := mt0) pfit ref42_pick_T_ok mt0_ok (fun s fn hf => by rw [Tryz.func34] at hf; cases hf; kernel_rfl) (fun n s => by kernel_rfl)
def ref42_Ints_T : Tab := (34, ref42_Ints_t) :: ref42_pick_T
theorem ref42_Ints_T_ok : ref42_Ints_T.ok Tryz.prog := Tab.ok_cons ref42_Ints_ok ref42_pick_T_ok
abbrev ref42_Same_a := Bool
def ref42_Same_1 (n : Nat) (v0 v1 : Int) (v2 v3 v4 : Lv) (v5 v6 : Int) (v7 v8 v9 : Lv) : Option ref42_Same_a :=
 (bif (decide (v0 = v5)) then (bif (decide (v1 = v6)) then (ref13_Same n v2 v7).bind fun y10 =>
 (bif y10 then (ref42_Ints n v3 v8).bind fun y11 =>
 (bif y11 then (ref42_Ints n v4 v9).bind fun y12 =>
 some y12
 else some false)
 else some false)
 else some false)
 else some false)
def ref42_Same (n : Nat) (v0 v1 : Int) (v2 v3 v4 : Lv) (v5 v6 : Int) (v7 v8 v9 : Lv) : Option ref42_Same_a := ref42_Same_1 n v0 v1 v2 v3 v4 v5 v6 v7 v8 v9
def ref42_Same_t : FnT := ⟨[(true, [.int, .int, (.sl (.cons .int (.cons .int (.cons .int .nil)))), (.sl (.cons .int .nil)), (.sl (.cons .int .nil))]), (true, [.int, .int, (.sl (.cons .int (.cons .int (.cons .int .nil)))), (.sl (.cons .int .nil)), (.sl (.cons .int .nil))])], .b, fun n (s : Int × Int × Lv × Lv × Lv × Int × Int × Lv × Lv × Lv) => ref42_Same n s.1 s.2.1 s.2.2.1 s.2.2.2.1 s.2.2.2.2.1 s.2.2.2.2.2.1 s.2.2.2.2.2.2.1 s.2.2.2.2.2.2.2.1 s.2.2.2.2.2.2.2.2.1 s.2.2.2.2.2.2.2.2.2⟩
theorem ref42_Same_ok : ref42_Same_t.ok Tryz.prog 20 := FnT.ok_of (cfg := ⟨[], consD11, [], []⟩) (tab := ref42_Ints_T) (mt := mt0) pfit ref42_Ints_T_ok mt0_ok (fun s fn hf => by rw [Tryz.func20] at hf; cases hf; kernel_rfl) (fun n s => by kernel_rfl)
def ref42_Same_T : Tab := (20, ref42_Same_t) :: ref42_Ints_T
theorem ref42_Same_T_ok : ref42_Same_T.ok Tryz.prog := Tab.ok_cons ref42_Same_ok ref42_Ints_T_ok
abbrev ref42_Owe_a := Lv
abbrev ref42_Owe_s0 := Lv × Int
def ref42_Owe_2 (n : Nat) (go0 : ref42_Owe_s0 → Option ref42_Owe_a) (v0 : Int) (v1 v2 : Lv) (v3 : Int) : Option ref42_Owe_a :=
 (bif (decide (v3 < (v1.length : Int))) then (bif (decide (v3 < 12)) then bif (decide (0 ≤ v3)) then (ref42_pick n (cI v1 v3 0) 8).bind fun y4 =>
 (ref42_pick n (cI v1 v3 1) 8).bind fun y5 =>
 (ref42_pick n (cI v1 v3 2) 1000).bind fun y6 =>
 bif ((decide ((-9223372036854775808) ≤ (1 + y6))) && (decide ((1 + y6) ≤ 9223372036854775807))) then (bif (!(decide (y4 = y5))) then bif (decide (0 ≤ y4)) then (bif (decide ((Int.tmod (IOp.f .shr v0 y4) 2) = 1)) then bif (decide (0 ≤ y5)) then (bif (decide ((Int.tmod (IOp.f .shr v0 y5) 2) = 1)) then bif (decide ((((v2.length : Int) + 1) * 24) ≤ 140737488355328)) then bif ((decide ((-9223372036854775808) ≤ (v3 + 1))) && (decide ((v3 + 1) ≤ 9223372036854775807))) then go0 ((v2 ++ [[(AV.int y4), (AV.int y5), (AV.int (1 + y6))]]), (v3 + 1)) else none else none
 else bif ((decide ((-9223372036854775808) ≤ (v3 + 1))) && (decide ((v3 + 1) ≤ 9223372036854775807))) then go0 (v2, (v3 + 1)) else none) else none
 else bif ((decide ((-9223372036854775808) ≤ (v3 + 1))) && (decide ((v3 + 1) ≤ 9223372036854775807))) then go0 (v2, (v3 + 1)) else none) else none
 else bif ((decide ((-9223372036854775808) ≤ (v3 + 1))) && (decide ((v3 + 1) ≤ 9223372036854775807))) then go0 (v2, (v3 + 1)) else none) else none else none
 else some v2)
 else some v2)
def ref42_Owe_1 (n : Nat) (v0 : Int) (v1 : Lv) : Option ref42_Owe_a :=
 (iterF (fun go0 s => ref42_Owe_2 n go0 v0 v1 s.1 s.2) n ((([] : Lv), 0) : ref42_Owe_s0))
def ref42_Owe (n : Nat) (v0 : Int) (v1 : Lv) : Option ref42_Owe_a := ref42_Owe_1 n v0 v1
def ref42_Owe_t : FnT := ⟨[(false, [.int]), (false, [(.sl (.cons .int (.cons .int (.cons .int .nil))))])], (.row 114 (.cons .int (.cons .int (.cons .int .nil)))), fun n (s : Int × Lv) => ref42_Owe n s.1 s.2⟩
theorem ref42_Owe_ok : ref42_Owe_t.ok Tryz.prog 55 := FnT.ok_of (cfg := ⟨[((55, 3, 0), .inv [(.tmprow 5 114 (.cons .int (.cons .int (.cons .int .nil)))), (.tmp 6 .int)])], consD11, [], []⟩) (tab := ref42_Same_T) (mt := mt0) pfit ref42_Same_T_ok mt0_ok (fun s fn hf => by rw [Tryz.func55] at hf; cases hf; kernel_rfl) (fun n s => by kernel_rfl)
def ref42_Owe_T : Tab := (55, ref42_Owe_t) :: ref42_Same_T
theorem ref42_Owe_T_ok : ref42_Owe_T.ok Tryz.prog := Tab.ok_cons ref42_Owe_ok ref42_Same_T_ok
abbrev ref42_Made_a := Int × Int × Lv × Lv × Lv
abbrev ref42_Made_s0 := Int × Lv
abbrev ref42_Made_s1 := Lv × Int × Lv
abbrev ref42_Made_s2 := Int
def ref42_Made_5 (n : Nat) (go0 : ref42_Made_s0 → Option ref42_Made_a) (v4 : Lv) (v5 v6 : Int) (v9 v11 : Lv) (v12 : Int) (v13 : Lv) : Option ref42_Made_a :=
 (bif (decide (v12 < (v4.length : Int))) then bif (decide (0 ≤ v12)) then (bif (decide (0 ≤ (cI v4 v12 0))) then (bif (decide ((cI v4 v12 0) ≤ 7)) then (bif (decide (0 ≤ (cI v4 v12 1))) then (bif (decide ((cI v4 v12 1) ≤ 7)) then (bif (decide ((Int.tmod (IOp.f .shr (1 + v5) (cI v4 v12 0)) 2) = 1)) then (bif (decide ((Int.tmod (IOp.f .shr (1 + v5) (cI v4 v12 1)) 2) = 1)) then bif (decide ((cI v4 v12 0) < (v13.length : Int))) then bif ((decide ((-9223372036854775808) ≤ ((cI v13 (cI v4 v12 0) 0) - (cI v4 v12 2)))) && (decide (((cI v13 (cI v4 v12 0) 0) - (cI v4 v12 2)) ≤ 9223372036854775807))) then bif (decide ((cI v4 v12 1) < (v13.length : Int))) then bif ((decide ((-9223372036854775808) ≤ ((cI (List.modify v13 ((cI v4 v12 0)).toNat (fun r => r.set 0 (AV.int ((cI v13 (cI v4 v12 0) 0) - (cI v4 v12 2))))) (cI v4 v12 1) 0) + (cI v4 v12 2)))) && (decide (((cI (List.modify v13 ((cI v4 v12 0)).toNat (fun r => r.set 0 (AV.int ((cI v13 (cI v4 v12 0) 0) - (cI v4 v12 2))))) (cI v4 v12 1) 0) + (cI v4 v12 2)) ≤ 9223372036854775807))) then bif ((decide ((-9223372036854775808) ≤ (v12 + 1))) && (decide ((v12 + 1) ≤ 9223372036854775807))) then go0 ((v12 + 1), (List.modify (List.modify v13 ((cI v4 v12 0)).toNat (fun r => r.set 0 (AV.int ((cI v13 (cI v4 v12 0) 0) - (cI v4 v12 2))))) ((cI v4 v12 1)).toNat (fun r => r.set 0 (AV.int ((cI (List.modify v13 ((cI v4 v12 0)).toNat (fun r => r.set 0 (AV.int ((cI v13 (cI v4 v12 0) 0) - (cI v4 v12 2))))) (cI v4 v12 1) 0) + (cI v4 v12 2)))))) else none else none else none else none else none
 else bif ((decide ((-9223372036854775808) ≤ (v12 + 1))) && (decide ((v12 + 1) ≤ 9223372036854775807))) then go0 ((v12 + 1), v13) else none)
 else bif ((decide ((-9223372036854775808) ≤ (v12 + 1))) && (decide ((v12 + 1) ≤ 9223372036854775807))) then go0 ((v12 + 1), v13) else none)
 else bif ((decide ((-9223372036854775808) ≤ (v12 + 1))) && (decide ((v12 + 1) ≤ 9223372036854775807))) then go0 ((v12 + 1), v13) else none)
 else bif ((decide ((-9223372036854775808) ≤ (v12 + 1))) && (decide ((v12 + 1) ≤ 9223372036854775807))) then go0 ((v12 + 1), v13) else none)
 else bif ((decide ((-9223372036854775808) ≤ (v12 + 1))) && (decide ((v12 + 1) ≤ 9223372036854775807))) then go0 ((v12 + 1), v13) else none)
 else bif ((decide ((-9223372036854775808) ≤ (v12 + 1))) && (decide ((v12 + 1) ≤ 9223372036854775807))) then go0 ((v12 + 1), v13) else none) else none
 else some ((1 + v5), (IOp.f .or (1 + v5) v6), v9, v13, v11))
def ref42_Made_4 (n : Nat) (go0 : ref42_Made_s1 → Option ref42_Made_a) (v3 : Int) (v4 : Lv) (v5 v6 v8 : Int) (v9 : Lv) (v10 : Int) (v11 : Lv) : Option ref42_Made_a :=
 (bif (decide (v10 < 8)) then bif (decide (0 ≤ v10)) then (bif (!(decide ((Int.tmod (IOp.f .shr (1 + v5) v10) 2) = 1))) then (ref13_Swap n v9 v10 v8).bind fun y12 =>
 bif (decide ((((v11.length : Int) + 1) * 8) ≤ 140737488355328)) then bif ((decide ((-9223372036854775808) ≤ (v10 + 1))) && (decide ((v10 + 1) ≤ 9223372036854775807))) then go0 (y12.1, (v10 + 1), (v11 ++ [[(AV.int 0)]])) else none else none
 else (ref42_pick n v3 256).bind fun y12 =>
 bif ((decide ((-9223372036854775808) ≤ (3 + (Int.tmod (IOp.f .shr y12 v10) 2)))) && (decide ((3 + (Int.tmod (IOp.f .shr y12 v10) 2)) ≤ 9223372036854775807))) then bif (decide ((((v11.length : Int) + 1) * 8) ≤ 140737488355328)) then bif ((decide ((-9223372036854775808) ≤ (v10 + 1))) && (decide ((v10 + 1) ≤ 9223372036854775807))) then go0 (v9, (v10 + 1), (v11 ++ [[(AV.int (3 + (Int.tmod (IOp.f .shr y12 v10) 2)))]])) else none else none else none) else none
 else (iterF (fun go0 s => ref42_Made_5 n go0 v4 v5 v6 v9 v11 s.1 s.2) n ((0, (List.replicate ((8 : Int)).toNat [(AV.int 0)])) : ref42_Made_s0)))
def ref42_Made_3 (n : Nat) (go0 : ref42_Made_s2 → Option ref42_Made_a) (v3 : Int) (v4 : Lv) (v5 v6 : Int) (v7 : Lv) (v8 : Int) : Option ref42_Made_a :=
 (bif (!(decide ((Int.tmod (IOp.f .shr (1 + v5) v8) 2) = 1))) then bif ((decide ((-9223372036854775808) ≤ (v8 + 1))) && (decide ((v8 + 1) ≤ 9223372036854775807))) then go0 (v8 + 1) else none
 else (iterF (fun go0 s => ref42_Made_4 n go0 v3 v4 v5 v6 v8 s.1 s.2.1 s.2.2) n ((v7, 0, ([] : Lv)) : ref42_Made_s1)))
def ref42_Made_2 (n : Nat) (go0 : ref42_Made_s2 → Option ref42_Made_a) (v3 : Int) (v4 : Lv) (v5 v6 : Int) (v7 : Lv) (v8 : Int) : Option ref42_Made_a :=
 bif (decide (0 ≤ v8)) then ref42_Made_3 n go0 v3 v4 v5 v6 v7 v8 else none
def ref42_Made_1 (n : Nat) (v0 v1 : Int) (v2 : Lv) (v3 : Int) (v4 : Lv) : Option ref42_Made_a :=
 (ref42_pick n v0 255).bind fun y5 =>
 bif ((decide ((-9223372036854775808) ≤ (1 + y5))) && (decide ((1 + y5) ≤ 9223372036854775807))) then (ref42_pick n v1 256).bind fun y6 =>
 bif (decide (0 ≤ (imin (v2.length : Int) 8))) then bif (decide ((imin (v2.length : Int) 8) ≤ (v2.length : Int))) then (ref13_Made n (List.take ((imin (v2.length : Int) 8)).toNat v2)).bind fun y7 =>
 (iterF (fun go0 s => ref42_Made_2 n go0 v3 v4 y5 y6 y7 s) n (0 : ref42_Made_s2)) else none else none else none
def ref42_Made (n : Nat) (v0 v1 : Int) (v2 : Lv) (v3 : Int) (v4 : Lv) : Option ref42_Made_a := ref42_Made_1 n v0 v1 v2 v3 v4
def ref42_Made_t : FnT := ⟨[(false, [.int]), (false, [.int]), (false, [(.sl (.cons .int (.cons .int (.cons .int .nil))))]), (false, [.int]), (false, [(.sl (.cons .int (.cons .int (.cons .int .nil))))])], (.agg (.cons .i (.cons .i (.cons (.row 1000116 (.cons .int (.cons .int (.cons .int .nil)))) (.cons (.row 1000003 (.cons .int .nil)) (.cons (.row 1000003 (.cons .int .nil)) .nil)))))), fun n (s : Int × Int × Lv × Int × Lv) => ref42_Made n s.1 s.2.1 s.2.2.1 s.2.2.2.1 s.2.2.2.2⟩
theorem ref42_Made_ok : ref42_Made_t.ok Tryz.prog 56 := FnT.ok_of (cfg := ⟨[((56, 5, 5), .inv [(.tmp 13 .int)]), ((56, 8, 6), .inv [(.tmprow 12 116 (.cons .int (.cons .int (.cons .int .nil)))), (.tmp 14 .int), (.cellrow 1 4 3 (.cons .int .nil))]), ((56, 19, 12), .inv [(.tmp 16 .int), (.cellrow 1 3 3 (.cons .int .nil))])], consD11, [], []⟩) (tab := ref42_Owe_T) (mt := mt0) pfit ref42_Owe_T_ok mt0_ok (fun s fn hf => by rw [Tryz.func56] at hf; cases hf; kernel_rfl) (fun n s => by kernel_rfl)
def ref42_Made_T : Tab := (56, ref42_Made_t) :: ref42_Owe_T
theorem ref42_Made_T_ok : ref42_Made_T.ok Tryz.prog := Tab.ok_cons ref42_Made_ok ref42_Owe_T_ok
abbrev ref42_One_a := Int × Int × Int × Int × Int × Int × Int × Int
abbrev ref42_One_s0 := Int × Int
def ref42_One_6 (n : Nat) (go0 : ref42_One_s0 → Option ref42_One_a) (v0 v5 v11 v12 v13 v14 v17 v21 v22 v23 : Int) : Option ref42_One_a :=
 (bif (decide (v22 < 8)) then (bif (decide (v23 = v17)) then bif ((decide ((-9223372036854775808) ≤ (v23 + 1))) && (decide ((v23 + 1) ≤ 9223372036854775807))) then bif ((decide ((-9223372036854775808) ≤ (v22 + 1))) && (decide ((v22 + 1) ≤ 9223372036854775807))) then go0 ((v22 + 1), (Int.tmod (v23 + 1) 8)) else none else none
 else bif (decide (0 ≤ v23)) then (bif (!(decide ((Int.tmod (IOp.f .shr v0 v23) 2) = 1))) then bif ((decide ((-9223372036854775808) ≤ (v23 + 1))) && (decide ((v23 + 1) ≤ 9223372036854775807))) then bif ((decide ((-9223372036854775808) ≤ (v22 + 1))) && (decide ((v22 + 1) ≤ 9223372036854775807))) then go0 ((v22 + 1), (Int.tmod (v23 + 1) 8)) else none else none
 else (ref13_Piece n v11 v12).bind fun y24 =>
 (ref42_pick n v12 401).bind fun y26 =>
 bif ((decide ((-9223372036854775808) ≤ (y26 - 200))) && (decide ((y26 - 200) ≤ 9223372036854775807))) then some ((1 + v13), (v5 + v14), v17, v21, 0, y24.1, y24.2, (y26 - 200)) else none) else none)
 else (ref13_Piece n v11 v12).bind fun y24 =>
 (ref42_pick n v12 401).bind fun y26 =>
 bif ((decide ((-9223372036854775808) ≤ (y26 - 200))) && (decide ((y26 - 200) ≤ 9223372036854775807))) then some ((1 + v13), (v5 + v14), v17, v21, 0, y24.1, y24.2, (y26 - 200)) else none)
abbrev ref42_One_7 := @ref42_One_6
def ref42_One_5 (n : Nat) (go0 : ref42_One_s0 → Option ref42_One_a) (v0 v1 v5 v11 v12 v13 v14 v17 v19 v20 v21 : Int) : Option ref42_One_a :=
 (bif (decide (v20 < 8)) then (bif (decide (v21 = v17)) then bif ((decide ((-9223372036854775808) ≤ (v21 + 1))) && (decide ((v21 + 1) ≤ 9223372036854775807))) then bif ((decide ((-9223372036854775808) ≤ (v20 + 1))) && (decide ((v20 + 1) ≤ 9223372036854775807))) then go0 ((v20 + 1), (Int.tmod (v21 + 1) 8)) else none else none
 else bif (decide (0 ≤ v21)) then (bif (!((decide ((Int.tmod (IOp.f .shr v1 v21) 2) = 1)) == false)) then bif ((decide ((-9223372036854775808) ≤ (v21 + 1))) && (decide ((v21 + 1) ≤ 9223372036854775807))) then bif ((decide ((-9223372036854775808) ≤ (v20 + 1))) && (decide ((v20 + 1) ≤ 9223372036854775807))) then go0 ((v20 + 1), (Int.tmod (v21 + 1) 8)) else none else none
 else (iterF (fun go0 s => ref42_One_6 n go0 v0 v5 v11 v12 v13 v14 v17 v21 s.1 s.2) n ((0, v19) : ref42_One_s0))) else none)
 else (iterF (fun go0 s => ref42_One_7 n go0 v0 v5 v11 v12 v13 v14 v17 v21 s.1 s.2) n ((0, v19) : ref42_One_s0)))
def ref42_One_9 (n : Nat) (go0 : ref42_One_s0 → Option ref42_One_a) (v0 v5 v11 v12 v13 v14 v17 v21 v22 v23 : Int) : Option ref42_One_a :=
 (bif (decide (v22 < 8)) then (bif (decide (v23 = v17)) then bif ((decide ((-9223372036854775808) ≤ (v23 + 1))) && (decide ((v23 + 1) ≤ 9223372036854775807))) then bif ((decide ((-9223372036854775808) ≤ (v22 + 1))) && (decide ((v22 + 1) ≤ 9223372036854775807))) then go0 ((v22 + 1), (Int.tmod (v23 + 1) 8)) else none else none
 else bif (decide (0 ≤ v23)) then (bif (!(decide ((Int.tmod (IOp.f .shr v0 v23) 2) = 1))) then bif ((decide ((-9223372036854775808) ≤ (v23 + 1))) && (decide ((v23 + 1) ≤ 9223372036854775807))) then bif ((decide ((-9223372036854775808) ≤ (v22 + 1))) && (decide ((v22 + 1) ≤ 9223372036854775807))) then go0 ((v22 + 1), (Int.tmod (v23 + 1) 8)) else none else none
 else (ref13_Piece n v11 v12).bind fun y24 =>
 (ref42_pick n v12 401).bind fun y26 =>
 bif ((decide ((-9223372036854775808) ≤ (y26 - 200))) && (decide ((y26 - 200) ≤ 9223372036854775807))) then (bif (!(decide ((1 + v13) = 3))) then (bif (decide ((1 + v13) = 1)) then some ((1 + v13), (v5 + v14), v17, v21, 0, 0, 0, 0)
 else (bif (decide ((1 + v13) = 4)) then some ((1 + v13), (v5 + v14), v17, 0, 0, 0, 0, 0)
 else some ((1 + v13), (v5 + v14), v17, v21, 0, y24.1, y24.2, (y26 - 200))))
 else some ((1 + v13), (v5 + v14), v17, v21, v23, y24.1, y24.2, (y26 - 200))) else none) else none)
 else (ref13_Piece n v11 v12).bind fun y24 =>
 (ref42_pick n v12 401).bind fun y26 =>
 bif ((decide ((-9223372036854775808) ≤ (y26 - 200))) && (decide ((y26 - 200) ≤ 9223372036854775807))) then (bif (!(decide ((1 + v13) = 3))) then (bif (decide ((1 + v13) = 1)) then some ((1 + v13), (v5 + v14), v17, v21, 0, 0, 0, 0)
 else (bif (decide ((1 + v13) = 4)) then some ((1 + v13), (v5 + v14), v17, 0, 0, 0, 0, 0)
 else some ((1 + v13), (v5 + v14), v17, v21, 0, y24.1, y24.2, (y26 - 200))))
 else some ((1 + v13), (v5 + v14), v17, v21, v23, y24.1, y24.2, (y26 - 200))) else none)
abbrev ref42_One_10 := @ref42_One_9
def ref42_One_8 (n : Nat) (go0 : ref42_One_s0 → Option ref42_One_a) (v0 v5 v11 v12 v13 v14 v17 v19 v20 v21 : Int) : Option ref42_One_a :=
 (bif (decide (v20 < 8)) then (bif (decide (v21 = v17)) then bif ((decide ((-9223372036854775808) ≤ (v21 + 1))) && (decide ((v21 + 1) ≤ 9223372036854775807))) then bif ((decide ((-9223372036854775808) ≤ (v20 + 1))) && (decide ((v20 + 1) ≤ 9223372036854775807))) then go0 ((v20 + 1), (Int.tmod (v21 + 1) 8)) else none else none
 else bif (decide (0 ≤ v21)) then (bif (!((decide ((Int.tmod (IOp.f .shr v0 v21) 2) = 1)) == true)) then bif ((decide ((-9223372036854775808) ≤ (v21 + 1))) && (decide ((v21 + 1) ≤ 9223372036854775807))) then bif ((decide ((-9223372036854775808) ≤ (v20 + 1))) && (decide ((v20 + 1) ≤ 9223372036854775807))) then go0 ((v20 + 1), (Int.tmod (v21 + 1) 8)) else none else none
 else (iterF (fun go0 s => ref42_One_9 n go0 v0 v5 v11 v12 v13 v14 v17 v21 s.1 s.2) n ((0, v19) : ref42_One_s0))) else none)
 else (iterF (fun go0 s => ref42_One_10 n go0 v0 v5 v11 v12 v13 v14 v17 v21 s.1 s.2) n ((0, v19) : ref42_One_s0)))
def ref42_One_4 (n : Nat) (go0 : ref42_One_s0 → Option ref42_One_a) (v0 v1 v5 v11 v12 v13 v14 v17 v18 v19 : Int) : Option ref42_One_a :=
 (bif (decide ((1 + v13) = 2)) then (iterF (fun go0 s => ref42_One_5 n go0 v0 v1 v5 v11 v12 v13 v14 v17 v19 s.1 s.2) n ((0, v18) : ref42_One_s0))
 else (iterF (fun go0 s => ref42_One_8 n go0 v0 v5 v11 v12 v13 v14 v17 v19 s.1 s.2) n ((0, v18) : ref42_One_s0)))
def ref42_One_3 (n : Nat) (go0 : ref42_One_s0 → Option ref42_One_a) (v0 v1 v5 v9 v10 v11 v12 v13 v14 v16 v17 : Int) : Option ref42_One_a :=
 (bif (!(decide ((Int.tmod (IOp.f .shr v0 v17) 2) = 1))) then bif ((decide ((-9223372036854775808) ≤ (v17 + 1))) && (decide ((v17 + 1) ≤ 9223372036854775807))) then bif ((decide ((-9223372036854775808) ≤ (v16 + 1))) && (decide ((v16 + 1) ≤ 9223372036854775807))) then go0 ((v16 + 1), (Int.tmod (v17 + 1) 8)) else none else none
 else (ref42_pick n v9 8).bind fun y18 =>
 (ref42_pick n v10 8).bind fun y19 =>
 ref42_One_4 n go0 v0 v1 v5 v11 v12 v13 v14 v17 y18 y19)
abbrev ref42_One_11 := @ref42_One_4
def ref42_One_2 (n : Nat) (go0 : ref42_One_s0 → Option ref42_One_a) (v0 v1 v5 v9 v10 v11 v12 v13 v14 v16 v17 : Int) : Option ref42_One_a :=
 (bif (decide (v16 < 8)) then bif (decide (0 ≤ v17)) then ref42_One_3 n go0 v0 v1 v5 v9 v10 v11 v12 v13 v14 v16 v17 else none
 else (ref42_pick n v9 8).bind fun y18 =>
 (ref42_pick n v10 8).bind fun y19 =>
 ref42_One_11 n go0 v0 v1 v5 v11 v12 v13 v14 v17 y18 y19)
def ref42_One_1 (n : Nat) (v0 v1 v5 v6 v7 v8 v9 v10 v11 v12 : Int) : Option ref42_One_a :=
 (ref42_pick n v6 4).bind fun y13 =>
 bif ((decide ((-9223372036854775808) ≤ (1 + y13))) && (decide ((1 + y13) ≤ 9223372036854775807))) then (ref42_pick n v7 5).bind fun y14 =>
 bif ((decide ((-9223372036854775808) ≤ (v5 + y14))) && (decide ((v5 + y14) ≤ 9223372036854775807))) then (ref42_pick n v8 8).bind fun y15 =>
 (iterF (fun go0 s => ref42_One_2 n go0 v0 v1 v5 v9 v10 v11 v12 y13 y14 s.1 s.2) n ((0, y15) : ref42_One_s0)) else none else none
def ref42_One (n : Nat) (v0 v1 : Int) (v2 v3 v4 : Lv) (v5 v6 v7 v8 v9 v10 v11 v12 : Int) : Option ref42_One_a := ref42_One_1 n v0 v1 v5 v6 v7 v8 v9 v10 v11 v12
def ref42_One_t : FnT := ⟨[(true, [.int, .int, (.sl (.cons .int (.cons .int (.cons .int .nil)))), (.sl (.cons .int .nil)), (.sl (.cons .int .nil))]), (false, [.int]), (true, [.int, .int, .int, .int, .int, .int, .int])], (.agg (.cons .i (.cons .i (.cons .i (.cons .i (.cons .i (.cons .i (.cons .i (.cons .i .nil))))))))), fun n (s : Int × Int × Lv × Lv × Lv × Int × Int × Int × Int × Int × Int × Int × Int) => ref42_One n s.1 s.2.1 s.2.2.1 s.2.2.2.1 s.2.2.2.2.1 s.2.2.2.2.2.1 s.2.2.2.2.2.2.1 s.2.2.2.2.2.2.2.1 s.2.2.2.2.2.2.2.2.1 s.2.2.2.2.2.2.2.2.2.1 s.2.2.2.2.2.2.2.2.2.2.1 s.2.2.2.2.2.2.2.2.2.2.2.1 s.2.2.2.2.2.2.2.2.2.2.2.2⟩
theorem ref42_One_ok : ref42_One_t.ok Tryz.prog 15 := FnT.ok_of (cfg := ⟨[((15, 3, 5), .inv [(.tmp 8 .int), (.cell 3 2 .int)]), ((15, 15, 9), .inv [(.tmp 11 .int), (.cell 3 3 .int)]), ((15, 19, 11), .inv [(.tmp 12 .int), (.cell 3 4 .int)])], consD11, [], []⟩) (tab := ref42_Made_T) (mt := mt0) pfit ref42_Made_T_ok mt0_ok (fun s fn hf => by rw [Tryz.func15] at hf; cases hf; kernel_rfl) (fun n s => by kernel_rfl)
def ref42_One_T : Tab := (15, ref42_One_t) :: ref42_Made_T
theorem ref42_One_T_ok : ref42_One_T.ok Tryz.prog := Tab.ok_cons ref42_One_ok ref42_Made_T_ok
end
end Go.Proofs.YtgckmifmjiklmaaGreat
set_option maxRecDepth 100000
namespace Go.Proofs.YtgckmifmjiklmaaGreat
open Go Go.Sx
noncomputable section
def consD12 : List Nat := [11, 12, 13, 14, 15, 16, 17, 18, 19, 20, 21, 22, 23, 24, 25, 26, 27, 28, 29, 30, 31, 32, 33, 34, 35, 36, 37, 38, 40, 46, 47, 51, 52, 54, 55, 56, 57, 58, 59, 61, 62, 63, 64, 66, 67, 69, 80, 83, 87, 90, 91, 92, 95, 96, 115, 116, 121, 122, 127, 128, 164, 165, 166, 197, 198, 201, 204, 205, 216, 229, 1000012, 1000056, 1000197, 1000216, 1000229]
abbrev law42_pick_a := Int
def law42_pick_1 (n : Nat) (v0 v1 : Int) : Option law42_pick_a :=
 (bif (decide (v0 < 0)) then bif ((decide ((-9223372036854775808) ≤ (v0 + 1))) && (decide ((v0 + 1) ≤ 9223372036854775807))) then bif ((decide ((-9223372036854775808) ≤ (0 - (v0 + 1)))) && (decide ((0 - (v0 + 1)) ≤ 9223372036854775807))) then bif (!(decide (v1 = 0))) then some (Int.tmod (0 - (v0 + 1)) v1) else none else none else none
 else bif (!(decide (v1 = 0))) then some (Int.tmod v0 v1) else none)
def law42_pick (n : Nat) (v0 v1 : Int) : Option law42_pick_a := law42_pick_1 n v0 v1
def law42_pick_t : FnT := ⟨[(false, [.int]), (false, [.int])], .i, fun n (s : Int × Int) => law42_pick n s.1 s.2⟩
theorem law42_pick_ok : law42_pick_t.ok Tryz.prog 23 := FnT.ok_of (cfg := ⟨[], consD12, [], []⟩) (tab := ref42_One_T) (mt := mt0) pfit ref42_One_T_ok mt0_ok (fun s fn hf => by rw [Tryz.func23] at hf; cases hf; kernel_rfl) (fun n s => by kernel_rfl)
def law42_pick_T : Tab := (23, law42_pick_t) :: ref42_One_T
theorem law42_pick_T_ok : law42_pick_T.ok Tryz.prog := Tab.ok_cons law42_pick_ok ref42_One_T_ok
abbrev law42_example_a := Int × Int × Lv × Lv × Lv
def law42_example_1 (n : Nat) : Option law42_example_a :=
 some (6, 6, ((([] : Lv) ++ [[(AV.int 100), (AV.int 200), (AV.int 1)]]) ++ [[(AV.int 200), (AV.int 300), (AV.int 2)]]), ((((((((([] : Lv) ++ [[(AV.int 0)]]) ++ [[(AV.int 50)]]) ++ [[(AV.int (-50))]]) ++ [[(AV.int 0)]]) ++ [[(AV.int 0)]]) ++ [[(AV.int 0)]]) ++ [[(AV.int 0)]]) ++ [[(AV.int 0)]]), (List.replicate ((8 : Int)).toNat [(AV.int 0)]))
def law42_example (n : Nat) : Option law42_example_a := law42_example_1 n
def law42_example_t : FnT := ⟨[], (.agg (.cons .i (.cons .i (.cons (.row 116 (.cons .int (.cons .int (.cons .int .nil)))) (.cons (.row 3 (.cons .int .nil)) (.cons (.row 3 (.cons .int .nil)) .nil)))))), fun n (s : Unit) => law42_example n⟩
theorem law42_example_ok : law42_example_t.ok Tryz.prog 51 := FnT.ok_of (cfg := ⟨[], consD12, [], []⟩) (tab := law42_pick_T) (mt := mt0) pfit law42_pick_T_ok mt0_ok (fun s fn hf => by rw [Tryz.func51] at hf; cases hf; kernel_rfl) (fun n s => by kernel_rfl)
def law42_example_T : Tab := (51, law42_example_t) :: law42_pick_T
theorem law42_example_T_ok : law42_example_T.ok Tryz.prog := Tab.ok_cons law42_example_ok law42_pick_T_ok
abbrev law42_events_a := Lv
def law42_events_1 (n : Nat) : Option law42_events_a :=
 some ((([] : Lv) ++ [[(AV.int 2), (AV.int 10), (AV.int 1), (AV.int 3), (AV.int 0), (AV.int 150), (AV.int 180), (AV.int 20)]]) ++ [[(AV.int 1), (AV.int 20), (AV.int 1), (AV.int 2), (AV.int 0), (AV.int 0), (AV.int 0), (AV.int 0)]])
def law42_events (n : Nat) : Option law42_events_a := law42_events_1 n
def law42_events_t : FnT := ⟨[], (.row 41 (.cons .int (.cons .int (.cons .int (.cons .int (.cons .int (.cons .int (.cons .int (.cons .int .nil))))))))), fun n (s : Unit) => law42_events n⟩
theorem law42_events_ok : law42_events_t.ok Tryz.prog 52 := FnT.ok_of (cfg := ⟨[], consD12, [], []⟩) (tab := law42_example_T) (mt := mt0) pfit law42_example_T_ok mt0_ok (fun s fn hf => by rw [Tryz.func52] at hf; cases hf; kernel_rfl) (fun n s => by kernel_rfl)
def law42_events_T : Tab := (52, law42_events_t) :: law42_example_T
theorem law42_events_T_ok : law42_events_T.ok Tryz.prog := Tab.ok_cons law42_events_ok law42_example_T_ok
abbrev law42_made_a := Int × Int × Lv × Lv × Lv × Lv
def law42_made_1 (n : Nat) (v0 v1 v2 : Int) (v3 v4 : Lv) : Option law42_made_a :=
 (law42_pick n v0 255).bind fun y5 =>
 bif ((decide ((-9223372036854775808) ≤ (1 + y5))) && (decide ((1 + y5) ≤ 9223372036854775807))) then (ref42_Owe n (1 + y5) v4).bind fun y6 =>
 (ref42_Made n v0 v1 v3 v2 y6).bind fun y7 =>
 some (y7.1, y7.2.1, y7.2.2.1, y7.2.2.2.1, y7.2.2.2.2, y6) else none
def law42_made (n : Nat) (v0 v1 v2 : Int) (v3 v4 : Lv) : Option law42_made_a := law42_made_1 n v0 v1 v2 v3 v4
def law42_made_t : FnT := ⟨[(true, [.int, .int, .int]), (false, [(.sl (.cons .int (.cons .int (.cons .int .nil))))]), (false, [(.sl (.cons .int (.cons .int (.cons .int .nil))))])], (.tup (.cons (.agg (.cons .i (.cons .i (.cons (.row 1000116 (.cons .int (.cons .int (.cons .int .nil)))) (.cons (.row 1000003 (.cons .int .nil)) (.cons (.row 1000003 (.cons .int .nil)) .nil)))))) (.cons (.row 1000114 (.cons .int (.cons .int (.cons .int .nil)))) .nil))), fun n (s : Int × Int × Int × Lv × Lv) => law42_made n s.1 s.2.1 s.2.2.1 s.2.2.2.1 s.2.2.2.2⟩
theorem law42_made_ok : law42_made_t.ok Tryz.prog 12 := FnT.ok_of (cfg := ⟨[], consD12, [], []⟩) (tab := law42_events_T) (mt := mt0) pfit law42_events_T_ok mt0_ok (fun s fn hf => by rw [Tryz.func12] at hf; cases hf; kernel_rfl) (fun n s => by kernel_rfl)
def law42_made_T : Tab := (12, law42_made_t) :: law42_events_T
theorem law42_made_T_ok : law42_made_T.ok Tryz.prog := Tab.ok_cons law42_made_ok law42_events_T_ok
abbrev law42_succeeds_a := Bool
def law42_succeeds_1 (n : Nat) (v0 v1 v2 : Int) : Option law42_succeeds_a :=
 (law42_example n ).bind fun y3 =>
 (law42_events n ).bind fun y8 =>
 (merge_Successor n y3.1 y3.2.1 y3.2.2.1 y3.2.2.2.1 y3.2.2.2.2 y8 1 v0 v1).bind fun y9 =>
 (bif (decide (y9.2 = 0)) then some (decide (y9.1 = v2))
 else some false)
def law42_succeeds (n : Nat) (v0 v1 v2 : Int) : Option law42_succeeds_a := law42_succeeds_1 n v0 v1 v2
def law42_succeeds_t : FnT := ⟨[(false, [.int]), (false, [.int]), (false, [.int])], .b, fun n (s : Int × Int × Int) => law42_succeeds n s.1 s.2.1 s.2.2⟩
theorem law42_succeeds_ok : law42_succeeds_t.ok Tryz.prog 54 := FnT.ok_of (cfg := ⟨[], consD12, [], []⟩) (tab := law42_made_T) (mt := mt0) pfit law42_made_T_ok mt0_ok (fun s fn hf => by rw [Tryz.func54] at hf; cases hf; kernel_rfl) (fun n s => by kernel_rfl)
def law42_succeeds_T : Tab := (54, law42_succeeds_t) :: law42_made_T
theorem law42_succeeds_T_ok : law42_succeeds_T.ok Tryz.prog := Tab.ok_cons law42_succeeds_ok law42_made_T_ok
end
end Go.Proofs.YtgckmifmjiklmaaGreat
set_option maxRecDepth 100000
namespace Go.Proofs.YtgckmifmjiklmaaGreat
open Go Go.Sx
noncomputable section
def consD13 : List Nat := [11, 12, 13, 14, 15, 16, 17, 18, 19, 20, 21, 22, 23, 24, 25, 26, 27, 28, 29, 30, 31, 32, 33, 34, 35, 36, 37, 38, 40, 46, 47, 51, 52, 54, 55, 56, 57, 58, 59, 61, 62, 63, 64, 66, 67, 69, 80, 83, 87, 90, 91, 92, 95, 96, 115, 116, 121, 122, 127, 128, 164, 165, 166, 197, 198, 201, 204, 205, 216, 229, 1000012, 1000056, 1000197, 1000216, 1000229]
abbrev law42_sane_a := Bool
def law42_sane_1 (n : Nat) : Option law42_sane_a :=
 (law42_example n ).bind fun y0 =>
 (law42_events n ).bind fun y5 =>
 bif (decide (0 < (y5.length : Int))) then (merge_Step n y0.1 y0.2.1 y0.2.2.1 y0.2.2.2.1 y0.2.2.2.2 (cI y5 0 0) (cI y5 0 1) (cI y5 0 2) (cI y5 0 3) (cI y5 0 4) (cI y5 0 5) (cI y5 0 6) (cI y5 0 7)).bind fun y6 =>
 (law42_example n ).bind fun y12 =>
 (law42_events n ).bind fun y17 =>
 (merge_Run n y12.1 y12.2.1 y12.2.2.1 y12.2.2.2.1 y12.2.2.2.2 y17).bind fun y18 =>
 (law42_events n ).bind fun y25 =>
 bif (decide ((((y25.length : Int) + 1) * 64) ≤ 140737488355328)) then (law42_example n ).bind fun y26 =>
 (merge_Run n y26.1 y26.2.1 y26.2.2.1 y26.2.2.2.1 y26.2.2.2.2 (y25 ++ [[(AV.int 2), (AV.int 30), (AV.int 2), (AV.int 1), (AV.int 0), (AV.int 100), (AV.int 110), (AV.int 0)]])).bind fun y31 =>
 (law42_events n ).bind fun y38 =>
 bif (decide ((((((y38.length : Int) + 1) + 1) + 1) * 64) ≤ 140737488355328)) then (law42_example n ).bind fun y39 =>
 (merge_Run n y39.1 y39.2.1 y39.2.2.1 y39.2.2.2.1 y39.2.2.2.2 (((y38 ++ [[(AV.int 4), (AV.int 30), (AV.int 2), (AV.int 0), (AV.int 0), (AV.int 0), (AV.int 0), (AV.int 0)]]) ++ [[(AV.int 4), (AV.int 30), (AV.int 3), (AV.int 0), (AV.int 0), (AV.int 0), (AV.int 0), (AV.int 0)]]) ++ [[(AV.int 4), (AV.int 40), (AV.int 2), (AV.int 0), (AV.int 0), (AV.int 0), (AV.int 0), (AV.int 0)]])).bind fun y44 =>
 (law42_example n ).bind fun y51 =>
 bif (decide (((((((y38.length : Int) + 1) + 1) + 1) + 1) * 64) ≤ 140737488355328)) then (merge_Run n y51.1 y51.2.1 y51.2.2.1 y51.2.2.2.1 y51.2.2.2.2 ((((y38 ++ [[(AV.int 4), (AV.int 30), (AV.int 2), (AV.int 0), (AV.int 0), (AV.int 0), (AV.int 0), (AV.int 0)]]) ++ [[(AV.int 4), (AV.int 30), (AV.int 3), (AV.int 0), (AV.int 0), (AV.int 0), (AV.int 0), (AV.int 0)]]) ++ [[(AV.int 4), (AV.int 40), (AV.int 2), (AV.int 0), (AV.int 0), (AV.int 0), (AV.int 0), (AV.int 0)]]) ++ [[(AV.int 4), (AV.int 40), (AV.int 2), (AV.int 0), (AV.int 0), (AV.int 0), (AV.int 0), (AV.int 0)]])).bind fun y56 =>
 (law42_example n ).bind fun y63 =>
 (law42_events n ).bind fun y68 =>
 (merge_Claim n y63.1 y63.2.1 y63.2.2.1 y63.2.2.2.1 y63.2.2.2.2 y68 100 1 2 4 0 false 5).bind fun y69 =>
 (law42_example n ).bind fun y76 =>
 (law42_events n ).bind fun y81 =>
 (merge_Claim n y76.1 y76.2.1 y76.2.2.1 y76.2.2.2.1 y76.2.2.2.2 y81 100 1 2 4 0 false 20).bind fun y82 =>
 (law42_example n ).bind fun y89 =>
 (law42_events n ).bind fun y94 =>
 (merge_Debts n y89.1 y89.2.1 y89.2.2.1 y89.2.2.2.1 y89.2.2.2.2 y94 (([] : Lv) ++ [[(AV.int 2), (AV.int 1), (AV.int 50)]])).bind fun y95 =>
 (bif (!(decide (y6.2.2.2.2.2 = 0))) then some false
 else (bif (!(decide (y18.2.2.2.2.2.2 = 0))) then some false
 else (bif (!(decide (y31.2.2.2.2.2.2 = 420))) then some false
 else (bif (!(decide (y44.2.2.2.2.2.2 = 0))) then some false
 else (bif (!(decide (y56.2.2.2.2.2.2 = 420))) then some false
 else (bif (!(decide (y95.2 = 0))) then some false
 else (bif (!(decide (y18.2.2.2.2.2.1 = 2))) then some false
 else (bif (!(decide (y31.2.2.2.2.2.1 = 2))) then some false
 else (bif (!(decide (y44.2.2.2.2.2.1 = 5))) then some false
 else (bif (!(decide (y56.2.2.2.2.2.1 = 5))) then some false
 else (bif (!y69.2.2.2.2.2.2) then some false
 else (bif y82.2.2.2.2.2.2 then some false
 else (bif (!((decide (y69.1 = 100)) && ((decide (y69.2.1 = 1)) && ((decide (y69.2.2.1 = 2)) && ((decide (y69.2.2.2.1 = 4)) && ((decide (y69.2.2.2.2.1 = 0)) && (y69.2.2.2.2.2.1 == false))))))) then some false
 else (bif (!(decide ((y95.1.length : Int) = 1))) then some false
 else (ref42_Same n y6.1 y6.2.1 y6.2.2.1 y6.2.2.2.1 y6.2.2.2.2.1 14 14 ((((([] : Lv) ++ [[(AV.int 100), (AV.int 150), (AV.int 1)]]) ++ [[(AV.int 150), (AV.int 180), (AV.int 3)]]) ++ [[(AV.int 180), (AV.int 200), (AV.int 1)]]) ++ [[(AV.int 200), (AV.int 300), (AV.int 2)]]) ((((((((([] : Lv) ++ [[(AV.int 0)]]) ++ [[(AV.int 30)]]) ++ [[(AV.int (-50))]]) ++ [[(AV.int 20)]]) ++ [[(AV.int 0)]]) ++ [[(AV.int 0)]]) ++ [[(AV.int 0)]]) ++ [[(AV.int 0)]]) (List.replicate ((8 : Int)).toNat [(AV.int 0)])).bind fun y97 =>
 (ref42_Same n y18.1 y18.2.1 y18.2.2.1 y18.2.2.2.1 y18.2.2.2.2.1 12 14 (((([] : Lv) ++ [[(AV.int 100), (AV.int 150), (AV.int 2)]]) ++ [[(AV.int 150), (AV.int 180), (AV.int 3)]]) ++ [[(AV.int 180), (AV.int 300), (AV.int 2)]]) ((((((((([] : Lv) ++ [[(AV.int 0)]]) ++ [[(AV.int 0)]]) ++ [[(AV.int (-20))]]) ++ [[(AV.int 20)]]) ++ [[(AV.int 0)]]) ++ [[(AV.int 0)]]) ++ [[(AV.int 0)]]) ++ [[(AV.int 0)]]) (List.replicate ((8 : Int)).toNat [(AV.int 0)])).bind fun y98 =>
 (ref42_Ints n y44.2.2.2.2.1 ((((((((([] : Lv) ++ [[(AV.int 0)]]) ++ [[(AV.int 0)]]) ++ [[(AV.int 2)]]) ++ [[(AV.int 1)]]) ++ [[(AV.int 0)]]) ++ [[(AV.int 0)]]) ++ [[(AV.int 0)]]) ++ [[(AV.int 0)]])).bind fun y99 =>
 (bif y97 then (bif y98 then (bif y99 then (law42_succeeds n 160 5 1).bind fun y100 =>
 (bif y100 then (law42_succeeds n 160 10 3).bind fun y101 =>
 (bif y101 then (law42_succeeds n 160 20 3).bind fun y102 =>
 (bif y102 then (law42_succeeds n 100 20 2).bind fun y103 =>
 (bif y103 then bif (decide (0 < (y95.1.length : Int))) then (bif ((decide ((cI y95.1 0 0) = 2)) && ((decide ((cI y95.1 0 1) = 3)) && (decide ((cI y95.1 0 2) = 20)))) then (law42_example n ).bind fun y104 =>
 (merge_Valid n y104.1 y104.2.1 y104.2.2.1 y104.2.2.2.1 y104.2.2.2.2).bind fun y109 =>
 (bif y109 then (merge_Valid n 0 0 ([] : Lv) ([] : Lv) ([] : Lv)).bind fun y110 =>
 some (!y110)
 else some false)
 else some false) else none
 else some false)
 else some false)
 else some false)
 else some false)
 else some false)
 else some false)
 else some false))))))))))))))) else none else none else none else none
def law42_sane (n : Nat) : Option law42_sane_a := law42_sane_1 n
def law42_sane_t : FnT := ⟨[], .b, fun n (s : Unit) => law42_sane n⟩
theorem law42_sane_ok : law42_sane_t.ok Tryz.prog 11 := FnT.ok_of (cfg := ⟨[], consD13, [], []⟩) (tab := law42_succeeds_T) (mt := mt0) pfit law42_succeeds_T_ok mt0_ok (fun s fn hf => by rw [Tryz.func11] at hf; cases hf; kernel_rfl) (fun n s => by kernel_rfl)
def law42_sane_T : Tab := (11, law42_sane_t) :: law42_succeeds_T
theorem law42_sane_T_ok : law42_sane_T.ok Tryz.prog := Tab.ok_cons law42_sane_ok law42_succeeds_T_ok
end
end Go.Proofs.YtgckmifmjiklmaaGreat
set_option maxRecDepth 100000
namespace Go.Proofs.YtgckmifmjiklmaaGreat
open Go Go.Sx
noncomputable section
def consR1 : List Nat := [11, 12, 13, 14, 15, 16, 17, 18, 19, 20, 21, 22, 23, 24, 25, 26, 27, 28, 29, 30, 31, 32, 33, 34, 35, 36, 37, 38, 40, 46, 47, 51, 52, 54, 55, 56, 57, 58, 59, 61, 62, 63, 64, 66, 67, 69, 80, 83, 87, 90, 91, 92, 95, 96, 115, 116, 121, 122, 127, 128, 164, 165, 166, 197, 198, 201, 204, 205, 216, 229, 1000012, 1000056, 1000197, 1000216, 1000229]
abbrev ref42_Copy_a := Int × Int × Lv × Lv × Lv
def ref42_Copy_1 (n : Nat) (v0 v1 : Int) (v2 v3 v4 : Lv) : Option ref42_Copy_a :=
 bif (decide (((v2.length : Int) * 24) ≤ 140737488355328)) then bif (decide (((v3.length : Int) * 8) ≤ 140737488355328)) then bif (decide (((v4.length : Int) * 8) ≤ 140737488355328)) then some (v0, v1, v2, v3, v4) else none else none else none
def ref42_Copy (n : Nat) (v0 v1 : Int) (v2 v3 v4 : Lv) : Option ref42_Copy_a := ref42_Copy_1 n v0 v1 v2 v3 v4
def ref42_Copy_t : FnT := ⟨[(true, [.int, .int, (.sl (.cons .int (.cons .int (.cons .int .nil)))), (.sl (.cons .int .nil)), (.sl (.cons .int .nil))])], (.agg (.cons .i (.cons .i (.cons (.row 116 (.cons .int (.cons .int (.cons .int .nil)))) (.cons (.row 3 (.cons .int .nil)) (.cons (.row 3 (.cons .int .nil)) .nil)))))), fun n (s : Int × Int × Lv × Lv × Lv) => ref42_Copy n s.1 s.2.1 s.2.2.1 s.2.2.2.1 s.2.2.2.2⟩
theorem ref42_Copy_ok : ref42_Copy_t.ok Tryz.prog 57 := FnT.ok_of (cfg := ⟨[], consR1, [], []⟩) (tab := law42_sane_T) (mt := mt0) pfit law42_sane_T_ok mt0_ok (fun s fn hf => by rw [Tryz.func57] at hf; cases hf; kernel_rfl) (fun n s => by kernel_rfl)
def ref42_Copy_T : Tab := (57, ref42_Copy_t) :: law42_sane_T
theorem ref42_Copy_T_ok : ref42_Copy_T.ok Tryz.prog := Tab.ok_cons ref42_Copy_ok law42_sane_T_ok
abbrev ref42_Valid_a := Bool
abbrev ref42_Valid_s0 := Int × Int × Int × Int
abbrev ref42_Valid_s1 := Int
def ref42_Valid_3 (n : Nat) (go0 : ref42_Valid_s0 → Option ref42_Valid_a) (v0 : Int) (v3 v4 : Lv) (v7 v8 v9 v10 : Int) : Option ref42_Valid_a :=
 (bif (decide (v10 < 8)) then bif (decide (0 ≤ v10)) then bif (decide (v10 < (v3.length : Int))) then (bif (decide ((-1000000000000) ≤ (cI v3 v10 0))) then (bif (!(decide ((cI v3 v10 0) ≤ 1000000000000))) then some false
 else bif (decide (v10 < (v4.length : Int))) then (bif (decide (0 ≤ (cI v4 v10 0))) then (bif (!(decide ((cI v4 v10 0) ≤ 9))) then some false
 else bif ((decide ((-9223372036854775808) ≤ (v7 + (cI v3 v10 0)))) && (decide ((v7 + (cI v3 v10 0)) ≤ 9223372036854775807))) then (bif (decide ((Int.tmod (IOp.f .shr v0 v10) 2) = 1)) then bif ((decide ((-9223372036854775808) ≤ (v10 + 1))) && (decide ((v10 + 1) ≤ 9223372036854775807))) then go0 ((v7 + (cI v3 v10 0)), (imin v8 (cI v4 v10 0)), (imax v9 (cI v4 v10 0)), (v10 + 1)) else none
 else (bif (!(decide ((cI v3 v10 0) = 0))) then some false
 else (bif (!(decide ((cI v4 v10 0) = 0))) then some false
 else bif ((decide ((-9223372036854775808) ≤ (v10 + 1))) && (decide ((v10 + 1) ≤ 9223372036854775807))) then go0 ((v7 + (cI v3 v10 0)), v8, v9, (v10 + 1)) else none))) else none)
 else some false) else none)
 else some false) else none else none
 else (bif (decide (v7 = 0)) then (bif (decide (v0 = 0)) then some true
 else bif ((decide ((-9223372036854775808) ≤ (v9 - v8))) && (decide ((v9 - v8) ≤ 9223372036854775807))) then some (decide ((v9 - v8) ≤ 1)) else none)
 else some false))
def ref42_Valid_2 (n : Nat) (go0 : ref42_Valid_s1 → Option ref42_Valid_a) (v0 : Int) (v2 v3 v4 : Lv) (v6 : Int) : Option ref42_Valid_a :=
 (bif (decide (v6 < (v2.length : Int))) then bif (decide (0 ≤ v6)) then bif (decide (0 ≤ (cI v2 v6 2))) then (bif (!(decide ((Int.tmod (IOp.f .shr v0 (cI v2 v6 2)) 2) = 1))) then some false
 else bif ((decide ((-9223372036854775808) ≤ (v6 + 1))) && (decide ((v6 + 1) ≤ 9223372036854775807))) then go0 (v6 + 1) else none) else none else none
 else (iterF (fun go0 s => ref42_Valid_3 n go0 v0 v3 v4 s.1 s.2.1 s.2.2.1 s.2.2.2) n ((0, 9, 0, 0) : ref42_Valid_s0)))
def ref42_Valid_1 (n : Nat) (v0 v1 : Int) (v2 v3 v4 : Lv) : Option ref42_Valid_a :=
 (bif (decide (0 ≤ v0)) then (bif (!(decide (v0 ≤ 255))) then some false
 else (bif (decide (0 ≤ v1)) then (bif (!(decide (v1 ≤ 255))) then some false
 else (bif (!(decide ((IOp.f .andNot v0 v1) = 0))) then some false
 else (ref13_Valid n v2).bind fun y5 =>
 (bif (!y5) then some false
 else (bif (!(decide ((v3.length : Int) = 8))) then some false
 else (bif (!(decide ((v4.length : Int) = 8))) then some false
 else (iterF (fun go0 s => ref42_Valid_2 n go0 v0 v2 v3 v4 s) n (0 : ref42_Valid_s1)))))))
 else some false))
 else some false)
def ref42_Valid (n : Nat) (v0 v1 : Int) (v2 v3 v4 : Lv) : Option ref42_Valid_a := ref42_Valid_1 n v0 v1 v2 v3 v4
def ref42_Valid_t : FnT := ⟨[(true, [.int, .int, (.sl (.cons .int (.cons .int (.cons .int .nil)))), (.sl (.cons .int .nil)), (.sl (.cons .int .nil))])], .b, fun n (s : Int × Int × Lv × Lv × Lv) => ref42_Valid n s.1 s.2.1 s.2.2.1 s.2.2.2.1 s.2.2.2.2⟩
theorem ref42_Valid_ok : ref42_Valid_t.ok Tryz.prog 19 := FnT.ok_of (cfg := ⟨[((19, 4, 1), .inv [(.tmp 3 .int)]), ((19, 12, 2), .inv [(.tmp 4 .int), (.tmp 5 .int), (.tmp 6 .int), (.tmp 7 .int)])], consR1, [], []⟩) (tab := ref42_Copy_T) (mt := mt0) pfit ref42_Copy_T_ok mt0_ok (fun s fn hf => by rw [Tryz.func19] at hf; cases hf; kernel_rfl) (fun n s => by kernel_rfl)
def ref42_Valid_T : Tab := (19, ref42_Valid_t) :: ref42_Copy_T
theorem ref42_Valid_T_ok : ref42_Valid_T.ok Tryz.prog := Tab.ok_cons ref42_Valid_ok ref42_Copy_T_ok
abbrev ref42_formed_a := Bool
def ref42_formed_1 (n : Nat) (v0 v1 v2 v3 v4 v5 v6 v7 : Int) : Option ref42_formed_a :=
 (bif (decide (0 ≤ v1)) then (bif (!(decide (v1 ≤ 10000000))) then some false
 else (bif (decide (0 ≤ v2)) then (bif (!(decide (v2 ≤ 7))) then some false
 else (bif (decide (0 ≤ v3)) then (bif (!(decide (v3 ≤ 7))) then some false
 else (bif (decide (0 ≤ v4)) then (bif (!(decide (v4 ≤ 7))) then some false
 else (bif ((decide (v5 = 0)) && (decide (v6 = 0))) then (bif (decide (0 ≤ v5)) then (bif (decide (v5 < v6)) then (bif (decide (v6 ≤ 100000000)) then (bif (decide ((-1000000000000) ≤ v7)) then (bif (decide (v0 = 1)) then (bif (decide (v7 = 0)) then (bif (decide (v4 = 0)) then some (!(decide (v2 = v3)))
 else some false)
 else some false)
 else (bif (decide (v0 = 2)) then (bif (decide (v7 ≤ 1000000000000)) then (bif (decide (v4 = 0)) then some (!(decide (v2 = v3)))
 else some false)
 else some false)
 else (bif (decide (v0 = 3)) then (bif (decide (v7 ≤ 1000000000000)) then (bif (!(decide (v2 = v3))) then some (!(decide (v2 = v4)))
 else some false)
 else some false)
 else (bif (decide (v0 = 4)) then (bif (decide (v7 = 0)) then (bif (decide (v3 = 0)) then some (decide (v4 = 0))
 else some false)
 else some false)
 else some false))))
 else (bif (decide (v0 = 1)) then (bif (decide (v7 = 0)) then (bif (decide (v4 = 0)) then some (!(decide (v2 = v3)))
 else some false)
 else some false)
 else (bif (decide (v0 = 2)) then some false
 else (bif (decide (v0 = 3)) then some false
 else (bif (decide (v0 = 4)) then (bif (decide (v7 = 0)) then (bif (decide (v3 = 0)) then some (decide (v4 = 0))
 else some false)
 else some false)
 else some false)))))
 else (bif (decide (v0 = 1)) then (bif (decide (v7 = 0)) then (bif (decide (v4 = 0)) then some (!(decide (v2 = v3)))
 else some false)
 else some false)
 else (bif (decide (v0 = 2)) then some false
 else (bif (decide (v0 = 3)) then some false
 else (bif (decide (v0 = 4)) then (bif (decide (v7 = 0)) then (bif (decide (v3 = 0)) then some (decide (v4 = 0))
 else some false)
 else some false)
 else some false)))))
 else (bif (decide (v0 = 1)) then (bif (decide (v7 = 0)) then (bif (decide (v4 = 0)) then some (!(decide (v2 = v3)))
 else some false)
 else some false)
 else (bif (decide (v0 = 2)) then some false
 else (bif (decide (v0 = 3)) then some false
 else (bif (decide (v0 = 4)) then (bif (decide (v7 = 0)) then (bif (decide (v3 = 0)) then some (decide (v4 = 0))
 else some false)
 else some false)
 else some false)))))
 else (bif (decide (v0 = 1)) then (bif (decide (v7 = 0)) then (bif (decide (v4 = 0)) then some (!(decide (v2 = v3)))
 else some false)
 else some false)
 else (bif (decide (v0 = 2)) then some false
 else (bif (decide (v0 = 3)) then some false
 else (bif (decide (v0 = 4)) then (bif (decide (v7 = 0)) then (bif (decide (v3 = 0)) then some (decide (v4 = 0))
 else some false)
 else some false)
 else some false)))))
 else (bif (decide (0 ≤ v5)) then (bif (decide (v5 < v6)) then (bif (decide (v6 ≤ 100000000)) then (bif (decide ((-1000000000000) ≤ v7)) then (bif (decide (v0 = 1)) then some false
 else (bif (decide (v0 = 2)) then (bif (decide (v7 ≤ 1000000000000)) then (bif (decide (v4 = 0)) then some (!(decide (v2 = v3)))
 else some false)
 else some false)
 else (bif (decide (v0 = 3)) then (bif (decide (v7 ≤ 1000000000000)) then (bif (!(decide (v2 = v3))) then some (!(decide (v2 = v4)))
 else some false)
 else some false)
 else (bif (decide (v0 = 4)) then some false
 else some false))))
 else (bif (decide (v0 = 1)) then some false
 else (bif (decide (v0 = 2)) then some false
 else (bif (decide (v0 = 3)) then some false
 else (bif (decide (v0 = 4)) then some false
 else some false)))))
 else (bif (decide (v0 = 1)) then some false
 else (bif (decide (v0 = 2)) then some false
 else (bif (decide (v0 = 3)) then some false
 else (bif (decide (v0 = 4)) then some false
 else some false)))))
 else (bif (decide (v0 = 1)) then some false
 else (bif (decide (v0 = 2)) then some false
 else (bif (decide (v0 = 3)) then some false
 else (bif (decide (v0 = 4)) then some false
 else some false)))))
 else (bif (decide (v0 = 1)) then some false
 else (bif (decide (v0 = 2)) then some false
 else (bif (decide (v0 = 3)) then some false
 else (bif (decide (v0 = 4)) then some false
 else some false)))))))
 else some false))
 else some false))
 else some false))
 else some false)
def ref42_formed (n : Nat) (v0 v1 v2 v3 v4 v5 v6 v7 : Int) : Option ref42_formed_a := ref42_formed_1 n v0 v1 v2 v3 v4 v5 v6 v7
def ref42_formed_t : FnT := ⟨[(true, [.int, .int, .int, .int, .int, .int, .int, .int])], .b, fun n (s : Int × Int × Int × Int × Int × Int × Int × Int) => ref42_formed n s.1 s.2.1 s.2.2.1 s.2.2.2.1 s.2.2.2.2.1 s.2.2.2.2.2.1 s.2.2.2.2.2.2.1 s.2.2.2.2.2.2.2⟩
theorem ref42_formed_ok : ref42_formed_t.ok Tryz.prog 63 := FnT.ok_of (cfg := ⟨[], consR1, [], []⟩) (tab := ref42_Valid_T) (mt := mt0) pfit ref42_Valid_T_ok mt0_ok (fun s fn hf => by rw [Tryz.func63] at hf; cases hf; kernel_rfl) (fun n s => by kernel_rfl)
def ref42_formed_T : Tab := (63, ref42_formed_t) :: ref42_Valid_T
theorem ref42_formed_T_ok : ref42_formed_T.ok Tryz.prog := Tab.ok_cons ref42_formed_ok ref42_Valid_T_ok
abbrev ref42_outside_a := Lv
abbrev ref42_outside_s0 := Lv × Int
def ref42_outside_6 (n : Nat) (go0 : ref42_outside_s0 → Option ref42_outside_a) (go1 : ref42_outside_s0 → Option ref42_outside_a) (v0 : Lv) (v2 v3 v4 v5 v7 : Int) (v8 : Lv) (v9 : Int) : Option ref42_outside_a :=
 (bif (decide (v9 = 1)) then (bif (decide (0 < (v8.length : Int))) then bif ((decide ((-9223372036854775808) ≤ ((v8.length : Int) - 1))) && (decide (((v8.length : Int) - 1) ≤ 9223372036854775807))) then bif (decide (0 ≤ (imax ((v8.length : Int) - 1) 0))) then bif (decide ((imax ((v8.length : Int) - 1) 0) < (v8.length : Int))) then (bif (decide ((cI v8 (imax ((v8.length : Int) - 1) 0) 1) = (cI ((((([] : Lv) ++ [[(AV.int (cI v0 v7 0))]]) ++ [[(AV.int (imax (cI v0 v7 0) (imin v4 (cI v0 v7 1))))]]) ++ [[(AV.int (imax (cI v0 v7 0) (imin v5 (cI v0 v7 1))))]]) ++ [[(AV.int (cI v0 v7 1))]]) v9 0))) then (bif (decide ((cI v8 (imax ((v8.length : Int) - 1) 0) 2) = v2)) then bif (decide (0 ≤ ((v8.length : Int) - 1))) then bif (decide (((v8.length : Int) - 1) < (v8.length : Int))) then go1 ((List.modify v8 (((v8.length : Int) - 1)).toNat (fun r => r.set 1 (AV.int (cI ((((([] : Lv) ++ [[(AV.int (cI v0 v7 0))]]) ++ [[(AV.int (imax (cI v0 v7 0) (imin v4 (cI v0 v7 1))))]]) ++ [[(AV.int (imax (cI v0 v7 0) (imin v5 (cI v0 v7 1))))]]) ++ [[(AV.int (cI v0 v7 1))]]) (v9 + 1) 0)))), (v9 + 1)) else none else none
 else bif (decide ((((v8.length : Int) + 1) * 24) ≤ 140737488355328)) then go1 ((v8 ++ [[(AV.int (cI ((((([] : Lv) ++ [[(AV.int (cI v0 v7 0))]]) ++ [[(AV.int (imax (cI v0 v7 0) (imin v4 (cI v0 v7 1))))]]) ++ [[(AV.int (imax (cI v0 v7 0) (imin v5 (cI v0 v7 1))))]]) ++ [[(AV.int (cI v0 v7 1))]]) v9 0)), (AV.int (cI ((((([] : Lv) ++ [[(AV.int (cI v0 v7 0))]]) ++ [[(AV.int (imax (cI v0 v7 0) (imin v4 (cI v0 v7 1))))]]) ++ [[(AV.int (imax (cI v0 v7 0) (imin v5 (cI v0 v7 1))))]]) ++ [[(AV.int (cI v0 v7 1))]]) (v9 + 1) 0)), (AV.int v2)]]), (v9 + 1)) else none)
 else bif (decide ((((v8.length : Int) + 1) * 24) ≤ 140737488355328)) then go1 ((v8 ++ [[(AV.int (cI ((((([] : Lv) ++ [[(AV.int (cI v0 v7 0))]]) ++ [[(AV.int (imax (cI v0 v7 0) (imin v4 (cI v0 v7 1))))]]) ++ [[(AV.int (imax (cI v0 v7 0) (imin v5 (cI v0 v7 1))))]]) ++ [[(AV.int (cI v0 v7 1))]]) v9 0)), (AV.int (cI ((((([] : Lv) ++ [[(AV.int (cI v0 v7 0))]]) ++ [[(AV.int (imax (cI v0 v7 0) (imin v4 (cI v0 v7 1))))]]) ++ [[(AV.int (imax (cI v0 v7 0) (imin v5 (cI v0 v7 1))))]]) ++ [[(AV.int (cI v0 v7 1))]]) (v9 + 1) 0)), (AV.int v2)]]), (v9 + 1)) else none) else none else none else none
 else bif (decide ((((v8.length : Int) + 1) * 24) ≤ 140737488355328)) then go1 ((v8 ++ [[(AV.int (cI ((((([] : Lv) ++ [[(AV.int (cI v0 v7 0))]]) ++ [[(AV.int (imax (cI v0 v7 0) (imin v4 (cI v0 v7 1))))]]) ++ [[(AV.int (imax (cI v0 v7 0) (imin v5 (cI v0 v7 1))))]]) ++ [[(AV.int (cI v0 v7 1))]]) v9 0)), (AV.int (cI ((((([] : Lv) ++ [[(AV.int (cI v0 v7 0))]]) ++ [[(AV.int (imax (cI v0 v7 0) (imin v4 (cI v0 v7 1))))]]) ++ [[(AV.int (imax (cI v0 v7 0) (imin v5 (cI v0 v7 1))))]]) ++ [[(AV.int (cI v0 v7 1))]]) (v9 + 1) 0)), (AV.int v2)]]), (v9 + 1)) else none)
 else (bif (decide (0 < (v8.length : Int))) then bif ((decide ((-9223372036854775808) ≤ ((v8.length : Int) - 1))) && (decide (((v8.length : Int) - 1) ≤ 9223372036854775807))) then bif (decide (0 ≤ (imax ((v8.length : Int) - 1) 0))) then bif (decide ((imax ((v8.length : Int) - 1) 0) < (v8.length : Int))) then (bif (decide ((cI v8 (imax ((v8.length : Int) - 1) 0) 1) = (cI ((((([] : Lv) ++ [[(AV.int (cI v0 v7 0))]]) ++ [[(AV.int (imax (cI v0 v7 0) (imin v4 (cI v0 v7 1))))]]) ++ [[(AV.int (imax (cI v0 v7 0) (imin v5 (cI v0 v7 1))))]]) ++ [[(AV.int (cI v0 v7 1))]]) v9 0))) then (bif (decide ((cI v8 (imax ((v8.length : Int) - 1) 0) 2) = v3)) then bif (decide (0 ≤ ((v8.length : Int) - 1))) then bif (decide (((v8.length : Int) - 1) < (v8.length : Int))) then go1 ((List.modify v8 (((v8.length : Int) - 1)).toNat (fun r => r.set 1 (AV.int (cI ((((([] : Lv) ++ [[(AV.int (cI v0 v7 0))]]) ++ [[(AV.int (imax (cI v0 v7 0) (imin v4 (cI v0 v7 1))))]]) ++ [[(AV.int (imax (cI v0 v7 0) (imin v5 (cI v0 v7 1))))]]) ++ [[(AV.int (cI v0 v7 1))]]) (v9 + 1) 0)))), (v9 + 1)) else none else none
 else bif (decide ((((v8.length : Int) + 1) * 24) ≤ 140737488355328)) then go1 ((v8 ++ [[(AV.int (cI ((((([] : Lv) ++ [[(AV.int (cI v0 v7 0))]]) ++ [[(AV.int (imax (cI v0 v7 0) (imin v4 (cI v0 v7 1))))]]) ++ [[(AV.int (imax (cI v0 v7 0) (imin v5 (cI v0 v7 1))))]]) ++ [[(AV.int (cI v0 v7 1))]]) v9 0)), (AV.int (cI ((((([] : Lv) ++ [[(AV.int (cI v0 v7 0))]]) ++ [[(AV.int (imax (cI v0 v7 0) (imin v4 (cI v0 v7 1))))]]) ++ [[(AV.int (imax (cI v0 v7 0) (imin v5 (cI v0 v7 1))))]]) ++ [[(AV.int (cI v0 v7 1))]]) (v9 + 1) 0)), (AV.int v3)]]), (v9 + 1)) else none)
 else bif (decide ((((v8.length : Int) + 1) * 24) ≤ 140737488355328)) then go1 ((v8 ++ [[(AV.int (cI ((((([] : Lv) ++ [[(AV.int (cI v0 v7 0))]]) ++ [[(AV.int (imax (cI v0 v7 0) (imin v4 (cI v0 v7 1))))]]) ++ [[(AV.int (imax (cI v0 v7 0) (imin v5 (cI v0 v7 1))))]]) ++ [[(AV.int (cI v0 v7 1))]]) v9 0)), (AV.int (cI ((((([] : Lv) ++ [[(AV.int (cI v0 v7 0))]]) ++ [[(AV.int (imax (cI v0 v7 0) (imin v4 (cI v0 v7 1))))]]) ++ [[(AV.int (imax (cI v0 v7 0) (imin v5 (cI v0 v7 1))))]]) ++ [[(AV.int (cI v0 v7 1))]]) (v9 + 1) 0)), (AV.int v3)]]), (v9 + 1)) else none) else none else none else none
 else bif (decide ((((v8.length : Int) + 1) * 24) ≤ 140737488355328)) then go1 ((v8 ++ [[(AV.int (cI ((((([] : Lv) ++ [[(AV.int (cI v0 v7 0))]]) ++ [[(AV.int (imax (cI v0 v7 0) (imin v4 (cI v0 v7 1))))]]) ++ [[(AV.int (imax (cI v0 v7 0) (imin v5 (cI v0 v7 1))))]]) ++ [[(AV.int (cI v0 v7 1))]]) v9 0)), (AV.int (cI ((((([] : Lv) ++ [[(AV.int (cI v0 v7 0))]]) ++ [[(AV.int (imax (cI v0 v7 0) (imin v4 (cI v0 v7 1))))]]) ++ [[(AV.int (imax (cI v0 v7 0) (imin v5 (cI v0 v7 1))))]]) ++ [[(AV.int (cI v0 v7 1))]]) (v9 + 1) 0)), (AV.int v3)]]), (v9 + 1)) else none))
def ref42_outside_5 (n : Nat) (go0 : ref42_outside_s0 → Option ref42_outside_a) (go1 : ref42_outside_s0 → Option ref42_outside_a) (v0 : Lv) (v1 v2 v3 v4 v5 v7 : Int) (v8 : Lv) (v9 : Int) : Option ref42_outside_a :=
 (bif (decide ((cI v0 v7 2) = v1)) then ref42_outside_6 n go0 go1 v0 v2 v3 v4 v5 v7 v8 v9
 else (bif (decide (0 < (v8.length : Int))) then bif ((decide ((-9223372036854775808) ≤ ((v8.length : Int) - 1))) && (decide (((v8.length : Int) - 1) ≤ 9223372036854775807))) then bif (decide (0 ≤ (imax ((v8.length : Int) - 1) 0))) then bif (decide ((imax ((v8.length : Int) - 1) 0) < (v8.length : Int))) then (bif (decide ((cI v8 (imax ((v8.length : Int) - 1) 0) 1) = (cI ((((([] : Lv) ++ [[(AV.int (cI v0 v7 0))]]) ++ [[(AV.int (imax (cI v0 v7 0) (imin v4 (cI v0 v7 1))))]]) ++ [[(AV.int (imax (cI v0 v7 0) (imin v5 (cI v0 v7 1))))]]) ++ [[(AV.int (cI v0 v7 1))]]) v9 0))) then (bif (decide ((cI v8 (imax ((v8.length : Int) - 1) 0) 2) = (cI v0 v7 2))) then bif (decide (0 ≤ ((v8.length : Int) - 1))) then bif (decide (((v8.length : Int) - 1) < (v8.length : Int))) then go1 ((List.modify v8 (((v8.length : Int) - 1)).toNat (fun r => r.set 1 (AV.int (cI ((((([] : Lv) ++ [[(AV.int (cI v0 v7 0))]]) ++ [[(AV.int (imax (cI v0 v7 0) (imin v4 (cI v0 v7 1))))]]) ++ [[(AV.int (imax (cI v0 v7 0) (imin v5 (cI v0 v7 1))))]]) ++ [[(AV.int (cI v0 v7 1))]]) (v9 + 1) 0)))), (v9 + 1)) else none else none
 else bif (decide ((((v8.length : Int) + 1) * 24) ≤ 140737488355328)) then go1 ((v8 ++ [[(AV.int (cI ((((([] : Lv) ++ [[(AV.int (cI v0 v7 0))]]) ++ [[(AV.int (imax (cI v0 v7 0) (imin v4 (cI v0 v7 1))))]]) ++ [[(AV.int (imax (cI v0 v7 0) (imin v5 (cI v0 v7 1))))]]) ++ [[(AV.int (cI v0 v7 1))]]) v9 0)), (AV.int (cI ((((([] : Lv) ++ [[(AV.int (cI v0 v7 0))]]) ++ [[(AV.int (imax (cI v0 v7 0) (imin v4 (cI v0 v7 1))))]]) ++ [[(AV.int (imax (cI v0 v7 0) (imin v5 (cI v0 v7 1))))]]) ++ [[(AV.int (cI v0 v7 1))]]) (v9 + 1) 0)), (AV.int (cI v0 v7 2))]]), (v9 + 1)) else none)
 else bif (decide ((((v8.length : Int) + 1) * 24) ≤ 140737488355328)) then go1 ((v8 ++ [[(AV.int (cI ((((([] : Lv) ++ [[(AV.int (cI v0 v7 0))]]) ++ [[(AV.int (imax (cI v0 v7 0) (imin v4 (cI v0 v7 1))))]]) ++ [[(AV.int (imax (cI v0 v7 0) (imin v5 (cI v0 v7 1))))]]) ++ [[(AV.int (cI v0 v7 1))]]) v9 0)), (AV.int (cI ((((([] : Lv) ++ [[(AV.int (cI v0 v7 0))]]) ++ [[(AV.int (imax (cI v0 v7 0) (imin v4 (cI v0 v7 1))))]]) ++ [[(AV.int (imax (cI v0 v7 0) (imin v5 (cI v0 v7 1))))]]) ++ [[(AV.int (cI v0 v7 1))]]) (v9 + 1) 0)), (AV.int (cI v0 v7 2))]]), (v9 + 1)) else none) else none else none else none
 else bif (decide ((((v8.length : Int) + 1) * 24) ≤ 140737488355328)) then go1 ((v8 ++ [[(AV.int (cI ((((([] : Lv) ++ [[(AV.int (cI v0 v7 0))]]) ++ [[(AV.int (imax (cI v0 v7 0) (imin v4 (cI v0 v7 1))))]]) ++ [[(AV.int (imax (cI v0 v7 0) (imin v5 (cI v0 v7 1))))]]) ++ [[(AV.int (cI v0 v7 1))]]) v9 0)), (AV.int (cI ((((([] : Lv) ++ [[(AV.int (cI v0 v7 0))]]) ++ [[(AV.int (imax (cI v0 v7 0) (imin v4 (cI v0 v7 1))))]]) ++ [[(AV.int (imax (cI v0 v7 0) (imin v5 (cI v0 v7 1))))]]) ++ [[(AV.int (cI v0 v7 1))]]) (v9 + 1) 0)), (AV.int (cI v0 v7 2))]]), (v9 + 1)) else none))
def ref42_outside_4 (n : Nat) (go0 : ref42_outside_s0 → Option ref42_outside_a) (go1 : ref42_outside_s0 → Option ref42_outside_a) (v0 : Lv) (v1 v2 v3 v4 v5 v7 : Int) (v8 : Lv) (v9 : Int) : Option ref42_outside_a :=
 (bif (decide ((cI ((((([] : Lv) ++ [[(AV.int (cI v0 v7 0))]]) ++ [[(AV.int (imax (cI v0 v7 0) (imin v4 (cI v0 v7 1))))]]) ++ [[(AV.int (imax (cI v0 v7 0) (imin v5 (cI v0 v7 1))))]]) ++ [[(AV.int (cI v0 v7 1))]]) v9 0) = (cI ((((([] : Lv) ++ [[(AV.int (cI v0 v7 0))]]) ++ [[(AV.int (imax (cI v0 v7 0) (imin v4 (cI v0 v7 1))))]]) ++ [[(AV.int (imax (cI v0 v7 0) (imin v5 (cI v0 v7 1))))]]) ++ [[(AV.int (cI v0 v7 1))]]) (v9 + 1) 0))) then go1 (v8, (v9 + 1))
 else ref42_outside_5 n go0 go1 v0 v1 v2 v3 v4 v5 v7 v8 v9)
def ref42_outside_3 (n : Nat) (go0 : ref42_outside_s0 → Option ref42_outside_a) (go1 : ref42_outside_s0 → Option ref42_outside_a) (v0 : Lv) (v1 v2 v3 v4 v5 v7 : Int) (v8 : Lv) (v9 : Int) : Option ref42_outside_a :=
 (bif (decide (v9 < 3)) then bif (decide (0 ≤ v9)) then bif (decide (v9 < 4)) then bif ((decide ((-9223372036854775808) ≤ (v9 + 1))) && (decide ((v9 + 1) ≤ 9223372036854775807))) then bif (decide (0 ≤ (v9 + 1))) then bif (decide ((v9 + 1) < 4)) then ref42_outside_4 n go0 go1 v0 v1 v2 v3 v4 v5 v7 v8 v9 else none else none else none else none else none
 else bif ((decide ((-9223372036854775808) ≤ (v7 + 1))) && (decide ((v7 + 1) ≤ 9223372036854775807))) then go0 (v8, (v7 + 1)) else none)
def ref42_outside_2 (n : Nat) (go0 : ref42_outside_s0 → Option ref42_outside_a) (v0 : Lv) (v1 v2 v3 v4 v5 : Int) (v6 : Lv) (v7 : Int) : Option ref42_outside_a :=
 (bif (decide (v7 < (v0.length : Int))) then bif (decide (0 ≤ v7)) then (iterF (fun go1 s => ref42_outside_3 n go0 go1 v0 v1 v2 v3 v4 v5 v7 s.1 s.2) n ((v6, 0) : ref42_outside_s0)) else none
 else some v6)
def ref42_outside_1 (n : Nat) (v0 : Lv) (v1 v2 v3 v4 v5 : Int) : Option ref42_outside_a :=
 (iterF (fun go0 s => ref42_outside_2 n go0 v0 v1 v2 v3 v4 v5 s.1 s.2) n ((([] : Lv), 0) : ref42_outside_s0))
def ref42_outside (n : Nat) (v0 : Lv) (v1 v2 v3 v4 v5 : Int) : Option ref42_outside_a := ref42_outside_1 n v0 v1 v2 v3 v4 v5
def ref42_outside_t : FnT := ⟨[(false, [(.sl (.cons .int (.cons .int (.cons .int .nil))))]), (false, [.int]), (false, [.int]), (false, [.int]), (true, [.int, .int])], (.row 116 (.cons .int (.cons .int (.cons .int .nil)))), fun n (s : Lv × Int × Int × Int × Int × Int) => ref42_outside n s.1 s.2.1 s.2.2.1 s.2.2.2.1 s.2.2.2.2.1 s.2.2.2.2.2⟩
theorem ref42_outside_ok : ref42_outside_t.ok Tryz.prog 66 := FnT.ok_of (cfg := ⟨[((66, 3, 1), .inv [(.tmprow 11 116 (.cons .int (.cons .int (.cons .int .nil)))), (.tmp 12 .int)]), ((66, 7, 4), .inv [(.tmprow 11 116 (.cons .int (.cons .int (.cons .int .nil)))), (.tmp 14 .int)])], consR1, [], []⟩) (tab := ref42_formed_T) (mt := mt0) pfit ref42_formed_T_ok mt0_ok (fun s fn hf => by rw [Tryz.func66] at hf; cases hf; kernel_rfl) (fun n s => by kernel_rfl)
def ref42_outside_T : Tab := (66, ref42_outside_t) :: ref42_formed_T
theorem ref42_outside_T_ok : ref42_outside_T.ok Tryz.prog := Tab.ok_cons ref42_outside_ok ref42_formed_T_ok
abbrev ref42_hand_a := Lv × Bool
def ref42_hand_1 (n : Nat) (v0 : Lv) (v1 v2 v3 v4 : Int) : Option ref42_hand_a :=
 (ref13_Only n v0 v3 v4).bind fun y5 =>
 (ref13_Swap n y5.1 v1 v2).bind fun y7 =>
 (ref13_Overlay n v0 y7.1).bind fun y9 =>
 (bif (decide (y5.2 = 0)) then (bif (decide (y7.2 = 0)) then some (y9.1, (decide (y9.2 = 0)))
 else some (y9.1, false))
 else some (y9.1, false))
def ref42_hand (n : Nat) (v0 : Lv) (v1 v2 v3 v4 : Int) : Option ref42_hand_a := ref42_hand_1 n v0 v1 v2 v3 v4
def ref42_hand_t : FnT := ⟨[(false, [(.sl (.cons .int (.cons .int (.cons .int .nil))))]), (false, [.int]), (false, [.int]), (true, [.int, .int])], (.tup (.cons (.row 116 (.cons .int (.cons .int (.cons .int .nil)))) (.cons .b .nil))), fun n (s : Lv × Int × Int × Int × Int) => ref42_hand n s.1 s.2.1 s.2.2.1 s.2.2.2.1 s.2.2.2.2⟩
theorem ref42_hand_ok : ref42_hand_t.ok Tryz.prog 64 := FnT.ok_of (cfg := ⟨[], consR1, [], []⟩) (tab := ref42_outside_T) (mt := mt0) pfit ref42_outside_T_ok mt0_ok (fun s fn hf => by rw [Tryz.func64] at hf; cases hf; kernel_rfl) (fun n s => by kernel_rfl)
def ref42_hand_T : Tab := (64, ref42_hand_t) :: ref42_outside_T
theorem ref42_hand_T_ok : ref42_hand_T.ok Tryz.prog := Tab.ok_cons ref42_hand_ok ref42_outside_T_ok
abbrev ref42_Step_a := Int × Int × Lv × Lv × Lv × Int
abbrev ref42_Step_s0 := Bool × Int
def ref42_Step_8 (n : Nat) (go0 : ref42_Step_s0 → Option ref42_Step_a) (v0 : Int) (v4 : Lv) (v7 v15 v16 : Int) (v17 v18 v19 : Lv) (v20 : Bool) (v21 : Int) : Option ref42_Step_a :=
 (bif (decide (v21 < 8)) then (bif v20 then bif (decide (0 ≤ v21)) then (bif (!(decide ((Int.tmod (IOp.f .shr v0 v21) 2) = 1))) then bif ((decide ((-9223372036854775808) ≤ (v21 + 1))) && (decide ((v21 + 1) ≤ 9223372036854775807))) then go0 (true, (v21 + 1)) else none
 else bif (decide (v21 < (v4.length : Int))) then bif (decide (v7 < (v4.length : Int))) then bif ((decide ((-9223372036854775808) ≤ (v21 + 1))) && (decide ((v21 + 1) ≤ 9223372036854775807))) then go0 ((decide ((cI v4 v7 0) ≤ (cI v4 v21 0))), (v21 + 1)) else none else none else none) else none
 else bif ((decide ((-9223372036854775808) ≤ (v21 + 1))) && (decide ((v21 + 1) ≤ 9223372036854775807))) then go0 (false, (v21 + 1)) else none)
 else bif (decide (v7 < (v19.length : Int))) then bif ((decide ((-9223372036854775808) ≤ ((cI v19 v7 0) + 1))) && (decide (((cI v19 v7 0) + 1) ≤ 9223372036854775807))) then (bif (!v20) then some (0, 0, ([] : Lv), ([] : Lv), ([] : Lv), 420)
 else (ref42_Valid n v15 v16 v17 v18 (List.modify v19 (v7).toNat (fun r => r.set 0 (AV.int ((cI v19 v7 0) + 1))))).bind fun y22 =>
 (bif (!y22) then some (0, 0, ([] : Lv), ([] : Lv), ([] : Lv), 420)
 else some (v15, v16, v17, v18, (List.modify v19 (v7).toNat (fun r => r.set 0 (AV.int ((cI v19 v7 0) + 1)))), 0))) else none else none)
def ref42_Step_7 (n : Nat) (v0 : Int) (v2 v3 v4 : Lv) (v5 v7 v8 v9 v10 v11 v12 v15 v16 : Int) (v17 v18 v19 : Lv) : Option ref42_Step_a :=
 (bif (decide (v5 = 3)) then bif (decide (0 ≤ v8)) then (bif (decide ((Int.tmod (IOp.f .shr v0 v8) 2) = 1)) then bif (decide (0 ≤ v9)) then (ref42_outside n v2 v7 v8 v9 v10 v11).bind fun y20 =>
 (ref13_Valid n y20).bind fun y21 =>
 bif (decide (v8 < (v18.length : Int))) then bif ((decide ((-9223372036854775808) ≤ ((cI v18 v8 0) + v12))) && (decide (((cI v18 v8 0) + v12) ≤ 9223372036854775807))) then bif (decide (v9 < (v18.length : Int))) then bif (decide (v7 < (v3.length : Int))) then bif ((decide ((-9223372036854775808) ≤ ((cI (List.modify v18 (v8).toNat (fun r => r.set 0 (AV.int ((cI v18 v8 0) + v12)))) v9 0) + (cI v3 v7 0)))) && (decide (((cI (List.modify v18 (v8).toNat (fun r => r.set 0 (AV.int ((cI v18 v8 0) + v12)))) v9 0) + (cI v3 v7 0)) ≤ 9223372036854775807))) then bif ((decide ((-9223372036854775808) ≤ (((cI (List.modify v18 (v8).toNat (fun r => r.set 0 (AV.int ((cI v18 v8 0) + v12)))) v9 0) + (cI v3 v7 0)) - v12))) && (decide ((((cI (List.modify v18 (v8).toNat (fun r => r.set 0 (AV.int ((cI v18 v8 0) + v12)))) v9 0) + (cI v3 v7 0)) - v12) ≤ 9223372036854775807))) then bif (decide (v7 < (v18.length : Int))) then bif (decide (v7 < (v19.length : Int))) then (bif (!(decide ((Int.tmod (IOp.f .shr v0 v9) 2) = 1))) then some (0, 0, ([] : Lv), ([] : Lv), ([] : Lv), 420)
 else (bif (!y21) then some (0, 0, ([] : Lv), ([] : Lv), ([] : Lv), 420)
 else (ref42_Valid n (IOp.f .andNot v0 (IOp.f .shl 1 v7)) v16 y20 (List.modify (List.modify (List.modify v18 (v8).toNat (fun r => r.set 0 (AV.int ((cI v18 v8 0) + v12)))) (v9).toNat (fun r => r.set 0 (AV.int (((cI (List.modify v18 (v8).toNat (fun r => r.set 0 (AV.int ((cI v18 v8 0) + v12)))) v9 0) + (cI v3 v7 0)) - v12)))) (v7).toNat (fun r => r.set 0 (AV.int 0))) (List.modify v19 (v7).toNat (fun r => r.set 0 (AV.int 0)))).bind fun y22 =>
 (bif (!y22) then some (0, 0, ([] : Lv), ([] : Lv), ([] : Lv), 420)
 else some ((IOp.f .andNot v0 (IOp.f .shl 1 v7)), v16, y20, (List.modify (List.modify (List.modify v18 (v8).toNat (fun r => r.set 0 (AV.int ((cI v18 v8 0) + v12)))) (v9).toNat (fun r => r.set 0 (AV.int (((cI (List.modify v18 (v8).toNat (fun r => r.set 0 (AV.int ((cI v18 v8 0) + v12)))) v9 0) + (cI v3 v7 0)) - v12)))) (v7).toNat (fun r => r.set 0 (AV.int 0))), (List.modify v19 (v7).toNat (fun r => r.set 0 (AV.int 0))), 0)))) else none else none else none else none else none else none else none else none else none
 else (ref42_outside n v2 v7 v8 v9 v10 v11).bind fun y20 =>
 (ref13_Valid n y20).bind fun y21 =>
 bif (decide (v8 < (v18.length : Int))) then bif ((decide ((-9223372036854775808) ≤ ((cI v18 v8 0) + v12))) && (decide (((cI v18 v8 0) + v12) ≤ 9223372036854775807))) then bif (decide (0 ≤ v9)) then bif (decide (v9 < (v18.length : Int))) then bif (decide (v7 < (v3.length : Int))) then bif ((decide ((-9223372036854775808) ≤ ((cI (List.modify v18 (v8).toNat (fun r => r.set 0 (AV.int ((cI v18 v8 0) + v12)))) v9 0) + (cI v3 v7 0)))) && (decide (((cI (List.modify v18 (v8).toNat (fun r => r.set 0 (AV.int ((cI v18 v8 0) + v12)))) v9 0) + (cI v3 v7 0)) ≤ 9223372036854775807))) then bif ((decide ((-9223372036854775808) ≤ (((cI (List.modify v18 (v8).toNat (fun r => r.set 0 (AV.int ((cI v18 v8 0) + v12)))) v9 0) + (cI v3 v7 0)) - v12))) && (decide ((((cI (List.modify v18 (v8).toNat (fun r => r.set 0 (AV.int ((cI v18 v8 0) + v12)))) v9 0) + (cI v3 v7 0)) - v12) ≤ 9223372036854775807))) then bif (decide (v7 < (v18.length : Int))) then bif (decide (v7 < (v19.length : Int))) then some (0, 0, ([] : Lv), ([] : Lv), ([] : Lv), 420) else none else none else none else none else none else none else none else none else none) else none
 else (iterF (fun go0 s => ref42_Step_8 n go0 v0 v4 v7 v15 v16 v17 v18 v19 s.1 s.2) n ((true, 0) : ref42_Step_s0)))
def ref42_Step_6 (n : Nat) (v0 v1 : Int) (v2 v3 v4 : Lv) (v5 v7 v8 v9 v10 v11 v12 v15 v16 : Int) (v17 v18 v19 : Lv) : Option ref42_Step_a :=
 (bif (decide (v5 = 2)) then bif (decide (0 ≤ v8)) then (ref42_hand n v2 v7 v8 v10 v11).bind fun y20 =>
 bif (decide (v8 < (v18.length : Int))) then bif (decide (v7 < (v3.length : Int))) then bif ((decide ((-9223372036854775808) ≤ ((cI v3 v7 0) - v12))) && (decide (((cI v3 v7 0) - v12) ≤ 9223372036854775807))) then bif (decide (v7 < (v18.length : Int))) then bif (decide (v7 < (v4.length : Int))) then bif (decide (v8 < (v19.length : Int))) then (bif ((decide ((Int.tmod (IOp.f .shr v1 v8) 2) = 1)) == true) then some (0, 0, ([] : Lv), ([] : Lv), ([] : Lv), 420)
 else (bif (!y20.2) then some (0, 0, ([] : Lv), ([] : Lv), ([] : Lv), 420)
 else (ref42_Valid n (IOp.f .or v0 (IOp.f .shl 1 v8)) (IOp.f .or v1 (IOp.f .shl 1 v8)) y20.1 (List.modify (List.modify v18 (v8).toNat (fun r => r.set 0 (AV.int v12))) (v7).toNat (fun r => r.set 0 (AV.int ((cI v3 v7 0) - v12)))) (List.modify v19 (v8).toNat (fun r => r.set 0 (AV.int (cI v4 v7 0))))).bind fun y22 =>
 (bif (!y22) then some (0, 0, ([] : Lv), ([] : Lv), ([] : Lv), 420)
 else some ((IOp.f .or v0 (IOp.f .shl 1 v8)), (IOp.f .or v1 (IOp.f .shl 1 v8)), y20.1, (List.modify (List.modify v18 (v8).toNat (fun r => r.set 0 (AV.int v12))) (v7).toNat (fun r => r.set 0 (AV.int ((cI v3 v7 0) - v12)))), (List.modify v19 (v8).toNat (fun r => r.set 0 (AV.int (cI v4 v7 0)))), 0)))) else none else none else none else none else none else none else none
 else ref42_Step_7 n v0 v2 v3 v4 v5 v7 v8 v9 v10 v11 v12 v15 v16 v17 v18 v19)
def ref42_Step_5 (n : Nat) (v0 v1 : Int) (v2 v3 v4 : Lv) (v5 v7 v8 v9 v10 v11 v12 v15 v16 : Int) (v17 v18 v19 : Lv) : Option ref42_Step_a :=
 (bif (decide (v5 = 1)) then bif (decide (0 ≤ v8)) then (ref42_hand n v2 v7 v8 0 100000000).bind fun y20 =>
 bif (decide (v8 < (v18.length : Int))) then bif (decide (v7 < (v3.length : Int))) then bif ((decide ((-9223372036854775808) ≤ ((cI v18 v8 0) + (cI v3 v7 0)))) && (decide (((cI v18 v8 0) + (cI v3 v7 0)) ≤ 9223372036854775807))) then bif (decide (v7 < (v18.length : Int))) then bif (decide (v7 < (v19.length : Int))) then (bif (!(decide ((Int.tmod (IOp.f .shr v0 v8) 2) = 1))) then some (0, 0, ([] : Lv), ([] : Lv), ([] : Lv), 420)
 else (bif (!y20.2) then some (0, 0, ([] : Lv), ([] : Lv), ([] : Lv), 420)
 else (ref42_Valid n (IOp.f .andNot v0 (IOp.f .shl 1 v7)) v16 y20.1 (List.modify (List.modify v18 (v8).toNat (fun r => r.set 0 (AV.int ((cI v18 v8 0) + (cI v3 v7 0))))) (v7).toNat (fun r => r.set 0 (AV.int 0))) (List.modify v19 (v7).toNat (fun r => r.set 0 (AV.int 0)))).bind fun y22 =>
 (bif (!y22) then some (0, 0, ([] : Lv), ([] : Lv), ([] : Lv), 420)
 else some ((IOp.f .andNot v0 (IOp.f .shl 1 v7)), v16, y20.1, (List.modify (List.modify v18 (v8).toNat (fun r => r.set 0 (AV.int ((cI v18 v8 0) + (cI v3 v7 0))))) (v7).toNat (fun r => r.set 0 (AV.int 0))), (List.modify v19 (v7).toNat (fun r => r.set 0 (AV.int 0))), 0)))) else none else none else none else none else none else none
 else ref42_Step_6 n v0 v1 v2 v3 v4 v5 v7 v8 v9 v10 v11 v12 v15 v16 v17 v18 v19)
def ref42_Step_4 (n : Nat) (v0 v1 : Int) (v2 v3 v4 : Lv) (v5 v7 v8 v9 v10 v11 v12 : Int) : Option ref42_Step_a :=
 (bif (!(decide ((Int.tmod (IOp.f .shr v0 v7) 2) = 1))) then some (0, 0, ([] : Lv), ([] : Lv), ([] : Lv), 420)
 else (ref42_Copy n v0 v1 v2 v3 v4).bind fun y15 =>
 ref42_Step_5 n v0 v1 v2 v3 v4 v5 v7 v8 v9 v10 v11 v12 y15.1 y15.2.1 y15.2.2.1 y15.2.2.2.1 y15.2.2.2.2)
def ref42_Step_3 (n : Nat) (v0 v1 : Int) (v2 v3 v4 : Lv) (v5 v7 v8 v9 v10 v11 v12 : Int) (v14 : Bool) : Option ref42_Step_a :=
 (bif (!v14) then some (0, 0, ([] : Lv), ([] : Lv), ([] : Lv), 420)
 else bif (decide (0 ≤ v7)) then ref42_Step_4 n v0 v1 v2 v3 v4 v5 v7 v8 v9 v10 v11 v12 else none)
def ref42_Step_2 (n : Nat) (v0 v1 : Int) (v2 v3 v4 : Lv) (v5 v6 v7 v8 v9 v10 v11 v12 : Int) (v13 : Bool) : Option ref42_Step_a :=
 (bif (!v13) then some (0, 0, ([] : Lv), ([] : Lv), ([] : Lv), 420)
 else (ref42_formed n v5 v6 v7 v8 v9 v10 v11 v12).bind fun y14 =>
 ref42_Step_3 n v0 v1 v2 v3 v4 v5 v7 v8 v9 v10 v11 v12 y14)
def ref42_Step_1 (n : Nat) (v0 v1 : Int) (v2 v3 v4 : Lv) (v5 v6 v7 v8 v9 v10 v11 v12 : Int) : Option ref42_Step_a :=
 (ref42_Valid n v0 v1 v2 v3 v4).bind fun y13 =>
 ref42_Step_2 n v0 v1 v2 v3 v4 v5 v6 v7 v8 v9 v10 v11 v12 y13
def ref42_Step (n : Nat) (v0 v1 : Int) (v2 v3 v4 : Lv) (v5 v6 v7 v8 v9 v10 v11 v12 : Int) : Option ref42_Step_a := ref42_Step_1 n v0 v1 v2 v3 v4 v5 v6 v7 v8 v9 v10 v11 v12
def ref42_Step_t : FnT := ⟨[(true, [.int, .int, (.sl (.cons .int (.cons .int (.cons .int .nil)))), (.sl (.cons .int .nil)), (.sl (.cons .int .nil))]), (true, [.int, .int, .int, .int, .int, .int, .int, .int])], (.tup (.cons (.agg (.cons .i (.cons .i (.cons (.row 116 (.cons .int (.cons .int (.cons .int .nil)))) (.cons (.row 3 (.cons .int .nil)) (.cons (.row 3 (.cons .int .nil)) .nil)))))) (.cons .i .nil))), fun n (s : Int × Int × Lv × Lv × Lv × Int × Int × Int × Int × Int × Int × Int × Int) => ref42_Step n s.1 s.2.1 s.2.2.1 s.2.2.2.1 s.2.2.2.2.1 s.2.2.2.2.2.1 s.2.2.2.2.2.2.1 s.2.2.2.2.2.2.2.1 s.2.2.2.2.2.2.2.2.1 s.2.2.2.2.2.2.2.2.2.1 s.2.2.2.2.2.2.2.2.2.2.1 s.2.2.2.2.2.2.2.2.2.2.2.1 s.2.2.2.2.2.2.2.2.2.2.2.2⟩
theorem ref42_Step_ok : ref42_Step_t.ok Tryz.prog 17 := FnT.ok_of (cfg := ⟨[((17, 8, 8), .inv [(.tmp 7 .bool), (.tmp 10 .int)])], consR1, [], []⟩) (tab := ref42_hand_T) (mt := mt0) pfit ref42_hand_T_ok mt0_ok (fun s fn hf => by rw [Tryz.func17] at hf; cases hf; kernel_rfl) (fun n s => by kernel_rfl)
def ref42_Step_T : Tab := (17, ref42_Step_t) :: ref42_hand_T
theorem ref42_Step_T_ok : ref42_Step_T.ok Tryz.prog := Tab.ok_cons ref42_Step_ok ref42_hand_T_ok
abbrev ref42_Events_a := Lv
abbrev ref42_Events_s0 := Lv × Int × Int × Int × Int × Lv × Lv × Lv
def ref42_Events_2 (n : Nat) (go0 : ref42_Events_s0 → Option ref42_Events_a) (v5 v6 : Lv) (v7 v8 v9 v10 : Int) (v11 v12 v13 : Lv) : Option ref42_Events_a :=
 (bif (decide (v8 < (v5.length : Int))) then (bif (decide (v8 < 8)) then bif (decide (0 ≤ v8)) then (ref42_One n v9 v10 v11 v12 v13 v7 (cI v5 v8 0) (cI v5 v8 1) (cI v5 v8 2) (cI v5 v8 3) (cI v5 v8 4) (cI v5 v8 5) (cI v5 v8 6)).bind fun y14 =>
 (ref42_Step n v9 v10 v11 v12 v13 y14.1 y14.2.1 y14.2.2.1 y14.2.2.2.1 y14.2.2.2.2.1 y14.2.2.2.2.2.1 y14.2.2.2.2.2.2.1 y14.2.2.2.2.2.2.2).bind fun y22 =>
 (bif (decide (y22.2.2.2.2.2 = 0)) then bif (decide ((((v6.length : Int) + 1) * 64) ≤ 140737488355328)) then bif ((decide ((-9223372036854775808) ≤ (v8 + 1))) && (decide ((v8 + 1) ≤ 9223372036854775807))) then go0 ((v6 ++ [[(AV.int y14.1), (AV.int y14.2.1), (AV.int y14.2.2.1), (AV.int y14.2.2.2.1), (AV.int y14.2.2.2.2.1), (AV.int y14.2.2.2.2.2.1), (AV.int y14.2.2.2.2.2.2.1), (AV.int y14.2.2.2.2.2.2.2)]]), y14.2.1, (v8 + 1), y22.1, y22.2.1, y22.2.2.1, y22.2.2.2.1, y22.2.2.2.2.1) else none else none
 else bif ((decide ((-9223372036854775808) ≤ (v8 + 1))) && (decide ((v8 + 1) ≤ 9223372036854775807))) then go0 (v6, v7, (v8 + 1), v9, v10, v11, v12, v13) else none) else none
 else some v6)
 else some v6)
def ref42_Events_1 (n : Nat) (v0 v1 : Int) (v2 v3 v4 v5 : Lv) : Option ref42_Events_a :=
 (iterF (fun go0 s => ref42_Events_2 n go0 v5 s.1 s.2.1 s.2.2.1 s.2.2.2.1 s.2.2.2.2.1 s.2.2.2.2.2.1 s.2.2.2.2.2.2.1 s.2.2.2.2.2.2.2) n ((([] : Lv), 0, 0, v0, v1, v2, v3, v4) : ref42_Events_s0))
def ref42_Events (n : Nat) (v0 v1 : Int) (v2 v3 v4 v5 : Lv) : Option ref42_Events_a := ref42_Events_1 n v0 v1 v2 v3 v4 v5
def ref42_Events_t : FnT := ⟨[(true, [.int, .int, (.sl (.cons .int (.cons .int (.cons .int .nil)))), (.sl (.cons .int .nil)), (.sl (.cons .int .nil))]), (false, [(.sl (.cons .int (.cons .int (.cons .int (.cons .int (.cons .int (.cons .int (.cons .int .nil))))))))])], (.row 41 (.cons .int (.cons .int (.cons .int (.cons .int (.cons .int (.cons .int (.cons .int (.cons .int .nil))))))))), fun n (s : Int × Int × Lv × Lv × Lv × Lv) => ref42_Events n s.1 s.2.1 s.2.2.1 s.2.2.2.1 s.2.2.2.2.1 s.2.2.2.2.2⟩
theorem ref42_Events_ok : ref42_Events_t.ok Tryz.prog 13 := FnT.ok_of (cfg := ⟨[((13, 4, 1), .inv [(.tmprow 5 41 (.cons .int (.cons .int (.cons .int (.cons .int (.cons .int (.cons .int (.cons .int (.cons .int .nil))))))))), (.tmp 6 .int), (.tmp 7 .int), (.cell 0 0 .int), (.cell 0 1 .int), (.cell 0 2 (.sl (.cons .int (.cons .int (.cons .int .nil))))), (.cell 0 3 (.sl (.cons .int .nil))), (.cell 0 4 (.sl (.cons .int .nil)))])], consR1, [], []⟩) (tab := ref42_Step_T) (mt := mt0) pfit ref42_Step_T_ok mt0_ok (fun s fn hf => by rw [Tryz.func13] at hf; cases hf; kernel_rfl) (fun n s => by kernel_rfl)
def ref42_Events_T : Tab := (13, ref42_Events_t) :: ref42_Step_T
theorem ref42_Events_T_ok : ref42_Events_T.ok Tryz.prog := Tab.ok_cons ref42_Events_ok ref42_Step_T_ok
end
end Go.Proofs.YtgckmifmjiklmaaGreat
set_option maxRecDepth 100000
namespace Go.Proofs.YtgckmifmjiklmaaGreat
open Go Go.Sx Go.Dial.Blk Go.Dial.Mrg
theorem andnot_sub {a b : Int} (a0 : 0 ≤ a) (a1 : a ≤ 255) (b0 : 0 ≤ b) (b1 : b ≤ 255) : IOp.f .andNot a b = 0 ↔ subS a b := by
 have ha : BitVec.ofInt 64 a = BitVec.ofNat 64 a.toNat := by
  rw [← BitVec.ofInt_natCast, Int.toNat_of_nonneg a0]
 have hb : BitVec.ofInt 64 b = BitVec.ofNat 64 b.toNat := by
  rw [← BitVec.ofInt_natCast, Int.toNat_of_nonneg b0]
 obtain ⟨x, hx⟩ : ∃ x, x = BitVec.ofNat 64 a.toNat &&& ~~~(BitVec.ofNat 64 b.toNat) := ⟨_, rfl⟩
 have hbit : ∀ i, x.toNat.testBit i = (a.toNat.testBit i && !(b.toNat.testBit i)) := fun i => by
  by_cases hi : i < 64
  ·rw [hx, BitVec.testBit_toNat, BitVec.getLsbD_and, BitVec.getLsbD_not, BitVec.getLsbD_ofNat, BitVec.getLsbD_ofNat]
   simp [hi]
  ·have h1 : x.toNat.testBit i = false := Nat.testBit_lt_two_pow (Nat.lt_of_lt_of_le x.isLt (Nat.pow_le_pow_right (by decide) (by omega)))
   have h2 : a.toNat.testBit i = false := Nat.testBit_lt_two_pow (Nat.lt_of_lt_of_le (by omega : a.toNat < 2 ^ 64) (Nat.pow_le_pow_right (by decide) (by omega)))
   rw [h1, h2]; rfl
 have hle : x.toNat < 256 := by
  have h1 : x.toNat &&& a.toNat = x.toNat := Nat.eq_of_testBit_eq fun i => by
   rw [Nat.testBit_and, hbit]
   cases a.toNat.testBit i <;> simp
  have h2 : x.toNat &&& a.toNat ≤ a.toNat := Nat.and_le_right
  omega
 have hE : IOp.f .andNot a b = (x.toNat : Int) := by
  show IntKind.i64.wrap ((BitVec.ofInt 64 a &&& ~~~(BitVec.ofInt 64 b)).toNat : Int) = _
  rw [ha, hb, ← hx]
  generalize x.toNat = y at hle
  have : ((y : Int)) % 18446744073709551616 = (y : Int) := by omega
  have hd : decide ((y : Int) ≥ 9223372036854775808) = false := by rw [decide_eq_false_iff_not]; omega
  show (if (true && decide ((y : Int) % 18446744073709551616 ≥ 9223372036854775808)) = true then (y : Int) % 18446744073709551616 - 18446744073709551616 else (y : Int) % 18446744073709551616) = _
  rw [this, hd]; rfl
 rw [hE]
 unfold subS
 constructor
 ·intro h
  have h0 : x.toNat = 0 := by omega
  refine Nat.eq_of_testBit_eq fun i => ?_
  have := hbit i
  rw [h0, Nat.zero_testBit] at this
  rw [Nat.testBit_and]
  cases h1 : a.toNat.testBit i <;> cases h2 : b.toNat.testBit i <;> simp_all
 ·intro h
  have : x.toNat = 0 := Nat.eq_of_testBit_eq fun i => by
   rw [hbit, Nat.zero_testBit, ← h, Nat.testBit_and]
   cases a.toNat.testBit i <;> cases b.toNat.testBit i <;> rfl
  omega
theorem ref42_Valid_v (n : Nat) (w : Wd) (hn : 50 < n) : ref42_Valid n w.al w.ev (bL w.bl) (iL w.ba) (iL w.le) = some (vB w) := by
 have A1 : WV w → w.al ≤ 255 := fun h => h.a1
 unfold ref42_Valid ref42_Valid_1
 refine cF (fun a0 => cN (fun a1 => cF (fun e0 => cN (fun e1 => cN (fun hs => ?_) (fun h => by rw [vB_false (fun p => h ((andnot_sub a0 a1 e0 e1).2 p.sub))])) (fun h => by rw [vB_false (fun p => h p.e1)])) (fun h => by rw [vB_false (fun p => h p.e0)])) (fun h => by rw [vB_false (fun p => h (A1 p))])) (fun h => by rw [vB_false (fun p => h p.a0)])
 replace hs := (andnot_sub a0 a1 e0 e1).1 hs
 rw [ref13_Valid_v n w.bl (by omega), Option.bind_some, ilen, ilen]
 refine cBN (fun hv => ?_) (fun hv => by rw [vB_false (fun p => by rw [(vldB_iff _).2 ⟨p.few, p.can⟩] at hv; cases hv)])
 obtain ⟨hfew, hcan⟩ := (vldB_iff _).1 hv
 refine cN (fun l1 => cN (fun l2 => ?_) (fun h => by rw [vB_false (fun p => h (by rw [p.lel]; rfl))])) (fun h => by rw [vB_false (fun p => h (by rw [p.bal]; rfl))])
 replace l1 : w.ba.length = 8 := by omega
 replace l2 : w.le.length = 8 := by omega
 have il1 : ((iL w.ba).length : Int) = 8 := by rw [ilen, l1]; rfl
 have il2 : ((iL w.le).length : Int) = 8 := by rw [ilen, l2]; rfl
 refine iterF_ind (fun s => ∃ i : Nat, s = (i : Int) ∧ i ≤ w.bl.length ∧ ∀ (j : Nat) b, j < i → w.bl[j]? = some b → has w.al b.c = true) (fun s => w.bl.length - s.toNat) _ ?_ n _ ⟨0, rfl, by omega, fun j b hj => by omega⟩ (by simp; omega)
 rintro _ go ⟨i, rfl, hi, hown⟩ ih
 unfold ref42_Valid_2
 by_cases hlt : i < w.bl.length
 ·obtain ⟨b, hb⟩ := get_lt hlt
  obtain ⟨g0, g1, g2⟩ := bcell hb
  have hbm := List.mem_of_getElem? hb
  have hbd := asc_bd hcan hbm
  rw [g2, shr_mod a0 a1 (by omega) (by omega)]
  refine cF (fun _ => gN (by omega) (gN (by omega) (cBN (fun hh => gO (by omega) (by omega) (ih _ ⟨i + 1, by simp, by omega, fun j c hj hc => ?_⟩ (by first | omega | (simp only; omega)))) (fun hh => by rw [vB_false (fun h => by rw [h.own b hbm] at hh; cases hh)])))) (fun h => by rw [List.length_map] at h; omega)
  by_cases h : j < i
  ·exact hown j c h hc
  ·have : j = i := by omega
   subst this; rw [hb] at hc; cases hc; exact hh
 ·refine cF (fun h => by rw [List.length_map] at h; omega) (fun _ => ?_)
  have hown' : ∀ b ∈ w.bl, has w.al b.c = true := fun b hb => by
   obtain ⟨j, hj⟩ := List.getElem?_of_mem hb
   exact hown j b (by have := (List.getElem?_eq_some_iff.1 hj).1; omega) hj
  clear ih
  refine iterF_ind (fun s => ∃ (i : Nat) (lo hi' : Int), s = ((w.ba.take i).sum, lo, hi', (i : Int)) ∧ i ≤ 8 ∧ -1000000000000 * (i : Int) ≤ (w.ba.take i).sum ∧ (w.ba.take i).sum ≤ 1000000000000 * (i : Int)
   ∧ (∀ c, 0 ≤ c → c < (i : Int) → (-1000000000000 ≤ g w.ba c ∧ g w.ba c ≤ 1000000000000) ∧ (0 ≤ g w.le c ∧ g w.le c ≤ 9) ∧ (has w.al c = false → g w.ba c = 0 ∧ g w.le c = 0))
   ∧ (0 ≤ lo ∧ lo ≤ 9 ∧ 0 ≤ hi' ∧ hi' ≤ 9) ∧ (∀ c, 0 ≤ c → c < (i : Int) → has w.al c = true → lo ≤ g w.le c ∧ g w.le c ≤ hi')
   ∧ ((∃ c, 0 ≤ c ∧ c < (i : Int) ∧ has w.al c = true) → (∃ c, 0 ≤ c ∧ c < (i : Int) ∧ has w.al c = true ∧ g w.le c = lo) ∧ ∃ c, 0 ≤ c ∧ c < (i : Int) ∧ has w.al c = true ∧ g w.le c = hi')
   ∧ ((¬ ∃ c, 0 ≤ c ∧ c < (i : Int) ∧ has w.al c = true) → lo = 9 ∧ hi' = 0)) (fun s => 8 - s.2.2.2.toNat) _ ?_ n _ ⟨0, 9, 0, rfl, by omega, by simp, by simp, fun c h0 h1 => by omega, by omega, fun c h0 h1 => by omega, fun ⟨c, h0, h1, _⟩ => by omega, fun _ => ⟨rfl, rfl⟩⟩ (by first | omega | (simp only; omega))
  rintro _ go ⟨i, lo, hi', rfl, hi, hs1, hs2, hok, hlh, hbd, hex, hno⟩ ih
  simp only at ih ⊢
  unfold ref42_Valid_3
  by_cases hlt : i < 8
  ·have i0 : (0 : Int) ≤ (i : Int) := by omega
   have i7 : (i : Int) ≤ 7 := by omega
   obtain ⟨x, hx⟩ := get_lt (l := w.ba) (i := i) (by omega)
   have hgx : g w.ba (i : Int) = x := by unfold g; rw [Int.toNat_natCast, List.getD_eq_getElem?_getD, hx]; rfl
   have htk : (w.ba.take (i + 1)).sum = (w.ba.take i).sum + g w.ba (i : Int) := by rw [take_snoc hx, List.sum_append, hgx]; simp
   have esucc : ((i + 1 : Nat) : Int) = (i : Int) + 1 := by omega
   rw [gcell l1 i0 i7, gcell l2 i0 i7, shr_mod a0 a1 i0 i7]
   refine cF (fun _ => gN i0 (gN (by omega) (cF (fun b0 => cN (fun b1 => gN (by omega) (cF (fun k0 => cN (fun k1 => gO (by omega) (by omega) ?_) (fun h => by rw [vB_false (fun p => h (p.l0 _ i0 i7).2)])) (fun h => by rw [vB_false (fun p => h (p.l0 _ i0 i7).1)]))) (fun h => by rw [vB_false (fun p => h (p.b0 _ i0 i7).2)])) (fun h => by rw [vB_false (fun p => h (p.b0 _ i0 i7).1)])))) (fun h => absurd h (by omega))
   have hok' : (has w.al (i : Int) = false → g w.ba (i : Int) = 0 ∧ g w.le (i : Int) = 0) → ∀ c, 0 ≤ c → c < ((i + 1 : Nat) : Int) → (-1000000000000 ≤ g w.ba c ∧ g w.ba c ≤ 1000000000000) ∧ (0 ≤ g w.le c ∧ g w.le c ≤ 9) ∧ (has w.al c = false → g w.ba c = 0 ∧ g w.le c = 0) := fun hd c c0 c1 => by
    by_cases hc : c < (i : Int)
    ·exact hok c c0 hc
    ·have : c = (i : Int) := by omega
     subst this; exact ⟨⟨b0, b1⟩, ⟨k0, k1⟩, hd⟩
   refine cB (fun hh => gO (by omega) (by omega) ?_) (fun hh => cN (fun z0 => cN (fun z1 => gO (by omega) (by omega) ?_) (fun h => by rw [vB_false (fun p => h (p.dead _ i0 i7 hh).2)])) (fun h => by rw [vB_false (fun p => h (p.dead _ i0 i7 hh).1)]))
   ·rw [← htk, ← esucc]
    have hmin : imin lo (g w.le (i : Int)) = if g w.le (i : Int) < lo then g w.le (i : Int) else lo := rfl
    have hmax : imax hi' (g w.le (i : Int)) = if hi' < g w.le (i : Int) then g w.le (i : Int) else hi' := rfl
    refine ih _ ⟨i + 1, _, _, rfl, by omega, by rw [htk, esucc]; omega, by rw [htk, esucc]; omega, hok' (fun h => by rw [hh] at h; cases h), by rw [hmin, hmax]; split <;> split <;> omega, fun c c0 c1 hc => ?_, fun _ => ?_, fun hne => absurd ⟨(i : Int), i0, by omega, hh⟩ hne⟩ (by first | omega | (simp only; omega))
    ·rw [hmin, hmax]
     by_cases hci : c < (i : Int)
     ·have := hbd c c0 hci hc
      split <;> split <;> omega
     ·have : c = (i : Int) := by omega
      subst this
      split <;> split <;> omega
    ·rw [hmin, hmax]
     by_cases hE : ∃ c, 0 ≤ c ∧ c < (i : Int) ∧ has w.al c = true
     ·obtain ⟨⟨c, c0, c1, c2, c3⟩, d, d0, d1, d2, d3⟩ := hex hE
      constructor
      ·split
       ·exact ⟨(i : Int), i0, by omega, hh, rfl⟩
       ·exact ⟨c, c0, by omega, c2, c3⟩
      ·split
       ·exact ⟨(i : Int), i0, by omega, hh, rfl⟩
       ·exact ⟨d, d0, by omega, d2, d3⟩
     ·obtain ⟨q1, q2⟩ := hno hE
      subst q1; subst q2
      constructor
      ·split
       ·exact ⟨(i : Int), i0, by omega, hh, rfl⟩
       ·exact ⟨(i : Int), i0, by omega, hh, by omega⟩
      ·split
       ·exact ⟨(i : Int), i0, by omega, hh, rfl⟩
       ·exact ⟨(i : Int), i0, by omega, hh, by omega⟩
   ·rw [← htk, ← esucc]
    refine ih _ ⟨i + 1, lo, hi', rfl, by omega, by rw [htk, esucc]; omega, by rw [htk, esucc]; omega, hok' (fun _ => ⟨z0, z1⟩), hlh, fun c c0 c1 hc => ?_, fun ⟨c, c0, c1, c2⟩ => ?_, fun hne => hno fun ⟨c, c0, c1, c2⟩ => hne ⟨c, c0, by omega, c2⟩⟩ (by first | omega | (simp only; omega))
    ·by_cases hci : c < (i : Int)
     ·exact hbd c c0 hci hc
     ·have : c = (i : Int) := by omega
      subst this; rw [hh] at hc; cases hc
    ·have hci : c < (i : Int) := by
      by_cases h : c < (i : Int)
      ·exact h
      ·have : c = (i : Int) := by omega
       subst this; rw [hh] at c2; cases c2
     obtain ⟨⟨x, x0, x1, x2⟩, y, y0, y1, y2⟩ := hex ⟨c, c0, hci, c2⟩
     exact ⟨⟨x, x0, by omega, x2⟩, y, y0, by omega, y2⟩
  ·have hi8 : i = 8 := by omega
   subst hi8
   have htk : w.ba.take 8 = w.ba := List.take_of_length_le (by omega)
   rw [htk]
   refine cF (fun h => absurd h (by omega)) (fun _ => cF (fun hz => ?_) (fun h => by rw [vB_false (fun p => h p.sum)]))
   have base : (∀ c d, 0 ≤ c → c ≤ 7 → 0 ≤ d → d ≤ 7 → has w.al c = true → has w.al d = true → g w.le c - g w.le d ≤ 1) → WV w := fun hnear => ⟨e0, e1, a0, hs, l1, l2, hcan, hfew, hown', fun c c0 c1 => (hok c c0 (by omega)).1, fun c c0 c1 => (hok c c0 (by omega)).2.1, fun c c0 c1 => (hok c c0 (by omega)).2.2, hz, hnear⟩
   refine cF (fun h0 => ?_) (fun h0 => gO (by omega) (by omega) ?_)
   ·rw [vB_true (base fun c d c0 c1 d0 d1 hc => by rw [h0] at hc; unfold has at hc; simp at hc)]
   ·obtain ⟨x, x0, x1, x2⟩ := some_bit (s := w.al) (by omega) a1
    obtain ⟨⟨c, c0, c1, c2, c3⟩, d, d0, d1, d2, d3⟩ := hex ⟨x, x0, by omega, x2⟩
    congr 1
    by_cases hd1 : hi' - lo ≤ 1
    ·rw [decide_eq_true hd1, vB_true (base fun p q p0 p1 q0 q1 hp hq => by
      have := hbd p p0 (by omega) hp; have := hbd q q0 (by omega) hq; omega)]
    ·rw [decide_eq_false hd1, vB_false (fun p => hd1 (by
      have := p.near d c d0 (by omega) c0 (by omega) d2 c2
      rw [← c3, ← d3]; exact this))]
noncomputable instance (e : Ev) : Decidable (Frm e) := Classical.propDecidable _
theorem fbT {e : Ev} {b : Bool} (h : b = true ↔ Frm e) : some b = some (decide (Frm e)) := by
 by_cases hf : Frm e
 ·rw [decide_eq_true hf, h.2 hf]
 ·rw [decide_eq_false hf]
  cases b
  ·rfl
  ·exact absurd (h.1 rfl) hf
theorem fbF {e : Ev} (h : ¬ Frm e) : some false = some (decide (Frm e)) := by rw [decide_eq_false h]
theorem ref42_formed_v (n : Nat) (e : Ev) : ref42_formed n e.k e.at_ e.a e.b e.c e.f e.t e.m = some (decide (Frm e)) := by
 obtain ⟨k, at_, a, b, c, f, t, m⟩ := e
 unfold ref42_formed ref42_formed_1
 dsimp only
 refine cF (fun t0 => cN (fun t1 => cF (fun a0 => cN (fun a1 => cF (fun b0 => cN (fun b1 => cF (fun c0 => cN (fun c1 => ?_) (fun h => fbF fun p => h p.c1)) (fun h => fbF fun p => h p.c0)) (fun h => fbF fun p => h p.b1)) (fun h => fbF fun p => h p.b0)) (fun h => fbF fun p => h p.a1)) (fun h => fbF fun p => h p.a0)) (fun h => fbF fun p => h p.t1)) (fun h => fbF fun p => h p.t0)
 have k1 : k = 1 → (f = 0 ∧ t = 0) → (bif (decide (m = 0)) then (bif (decide (c = 0)) then some (!(decide (a = b))) else some false) else some false) = some (decide (Frm ⟨k, at_, a, b, c, f, t, m⟩)) := fun hk hr => by
  subst hk
  obtain ⟨rfl, rfl⟩ := hr
  refine cF (fun hm => cF (fun hc => fbT ?_) (fun h => fbF fun p => h (p.noC (by show ¬ (1 : Int) = 3; decide)))) (fun h => fbF fun p => h (p.bare (.inl rfl)).2.2)
  rw [Bool.not_eq_true', decide_eq_false_iff_not]
  exact ⟨fun h => ⟨t0, t1, a0, a1, b0, b1, c0, c1, (show 1 ≤ (1 : Int) ∧ (1 : Int) ≤ 4 by decide), fun _ => ⟨rfl, rfl, hm⟩, fun h => by simp at h, fun _ => hc, fun h => by simp at h, fun _ => h, fun h => by simp at h⟩, fun p => p.other (by show ¬ (1 : Int) = 4; decide)⟩
 have k4 : k = 4 → (f = 0 ∧ t = 0) → (bif (decide (m = 0)) then (bif (decide (b = 0)) then some (decide (c = 0)) else some false) else some false) = some (decide (Frm ⟨k, at_, a, b, c, f, t, m⟩)) := fun hk hr => by
  subst hk
  obtain ⟨rfl, rfl⟩ := hr
  refine cF (fun hm => cF (fun hb => fbT ?_) (fun h => fbF fun p => h (p.noB rfl))) (fun h => fbF fun p => h (p.bare (.inr rfl)).2.2)
  rw [decide_eq_true_eq]
  exact ⟨fun h => ⟨t0, t1, a0, a1, b0, b1, c0, c1, (show 1 ≤ (4 : Int) ∧ (4 : Int) ≤ 4 by decide), fun _ => ⟨rfl, rfl, hm⟩, fun h => by simp at h, fun _ => h, fun _ => hb, fun h => absurd rfl h, fun h => by simp at h⟩, fun p => p.noC (by show ¬ (4 : Int) = 3; decide)⟩
 have no14 : ¬ (f = 0 ∧ t = 0) → (k = 1 ∨ k = 4) → ¬ Frm ⟨k, at_, a, b, c, f, t, m⟩ := fun hr hk p => hr ⟨(p.bare hk).1, (p.bare hk).2.1⟩
 have no23 : ∀ {P : Prop}, ¬ P → ((k = 2 ∨ k = 3) → Frm ⟨k, at_, a, b, c, f, t, m⟩ → P) → (k = 2 ∨ k = 3) → ¬ Frm ⟨k, at_, a, b, c, f, t, m⟩ := fun h1 h2 hk p => h1 (h2 hk p)
 have noK : ¬ k = 1 → ¬ k = 2 → ¬ k = 3 → ¬ k = 4 → ¬ Frm ⟨k, at_, a, b, c, f, t, m⟩ := fun h1 h2 h3 h4 p => by have h5 : 1 ≤ k ∧ k ≤ 4 := p.kind; omega
 refine cAn (fun hr => ?_) (fun hr => ?_)
 ·obtain ⟨hf0, ht0⟩ := hr
  have hlt : ¬ f < t := by omega
  have hno : (k = 2 ∨ k = 3) → ¬ Frm ⟨k, at_, a, b, c, f, t, m⟩ := fun hk p => hlt (p.full hk).2.1
  refine cF (fun _ => cF (fun h => absurd h hlt) (fun _ => ?_)) (fun h => absurd (by omega) h)
  refine cF (fun hk => k1 hk ⟨hf0, ht0⟩) (fun h1 => cF (fun hk => fbF (hno (.inl hk))) (fun h2 => cF (fun hk => fbF (hno (.inr hk))) (fun h3 => cF (fun hk => k4 hk ⟨hf0, ht0⟩) (fun h4 => fbF (noK h1 h2 h3 h4)))))
 ·have leaf : (∀ p : (k = 2 ∨ k = 3), ¬ Frm ⟨k, at_, a, b, c, f, t, m⟩) → (bif (decide (k = 1)) then some false else (bif (decide (k = 2)) then some false else (bif (decide (k = 3)) then some false else (bif (decide (k = 4)) then some false else some false)))) = some (decide (Frm ⟨k, at_, a, b, c, f, t, m⟩)) := fun hno =>
   cF (fun hk => fbF (no14 hr (.inl hk))) (fun h1 => cF (fun hk => fbF (hno (.inl hk))) (fun h2 => cF (fun hk => fbF (hno (.inr hk))) (fun h3 => cF (fun hk => fbF (no14 hr (.inr hk))) (fun h4 => fbF (noK h1 h2 h3 h4)))))
  refine cF (fun f0 => cF (fun f1 => cF (fun f2 => cF (fun m0 => ?_) (fun h => leaf fun hk p => h (p.full hk).2.2.2.1)) (fun h => leaf fun hk p => h (p.full hk).2.2.1)) (fun h => leaf fun hk p => h (p.full hk).2.1)) (fun h => leaf fun hk p => h (p.full hk).1)
  refine cF (fun hk => fbF (no14 hr (.inl hk))) (fun h1 => cF (fun hk => ?_) (fun h2 => cF (fun hk => ?_) (fun h3 => cF (fun hk => fbF (no14 hr (.inr hk))) (fun h4 => fbF (noK h1 h2 h3 h4)))))
  ·subst hk
   refine cF (fun m1 => cF (fun hc => fbT ?_) (fun h => fbF fun p => h (p.noC (by show ¬ (2 : Int) = 3; decide)))) (fun h => fbF fun p => h (p.full (.inl rfl)).2.2.2.2)
   rw [Bool.not_eq_true', decide_eq_false_iff_not]
   exact ⟨fun h => ⟨t0, t1, a0, a1, b0, b1, c0, c1, (show 1 ≤ (2 : Int) ∧ (2 : Int) ≤ 4 by decide), fun h => by simp at h, fun _ => ⟨f0, f1, f2, m0, m1⟩, fun _ => hc, fun h => by simp at h, fun _ => h, fun h => by simp at h⟩, fun p => p.other (by show ¬ (2 : Int) = 4; decide)⟩
  ·subst hk
   refine cF (fun m1 => cN (fun hab => ?_) (fun hab => fbT ?_)) (fun h => fbF fun p => h (p.full (.inr rfl)).2.2.2.2)
   ·exact fbF fun p => p.other (by show ¬ (3 : Int) = 4; decide) hab
   ·rw [Bool.not_eq_true', decide_eq_false_iff_not]
    exact ⟨fun h => ⟨t0, t1, a0, a1, b0, b1, c0, c1, (show 1 ≤ (3 : Int) ∧ (3 : Int) ≤ 4 by decide), fun h => by simp at h, fun _ => ⟨f0, f1, f2, m0, m1⟩, fun h => absurd rfl h, fun h => by simp at h, fun _ => hab, fun _ => h⟩, fun p => p.third rfl⟩
set_option maxRecDepth 100000
theorem ref13_Only_v (n : Nat) (l : List B3) (f t : Int) (hc : Canon l) (hl : l.length ≤ 40) (h0 : 0 ≤ f) (h1 : f < t) (h2 : t ≤ 100000000) (hn : 210 < n) : ref13_Only n (bL l) f t = some (bL (mapOf (onlyG l f t)), 0) := by
 have hV : vldB l = true := (vldB_iff l).2 ⟨hl, hc⟩
 have hM := only_map hc h0 h1 h2
 have hlen := only_len hc f t hM
 obtain ⟨e1, e2⟩ := ref13_combine_v n l [⟨f, t, 0⟩] 2 (-1) (-1) hc (canon_one h0 h1 h2 (by decide) (by decide)) (by omega) (by simp) (.inr (.inr rfl)) (by decide) hn
 have hE : (fun m => gcR 2 (-1) (-1) (hold l m) (hold [⟨f, t, 0⟩] m)) = onlyG l f t := by
  funext m
  have := hold_range hc m
  rw [hold_one]
  unfold gcR onlyG
  by_cases hm : f ≤ m ∧ m < t
  ·simp [hm]
   try omega
  ·simp [hm]
 rw [hE] at e1
 unfold ref13_Only ref13_Only_1
 rw [ref13_Valid_v n l (by omega), Option.bind_some, hV, Bool.not_true, cond_false, decide_eq_true h0, cond_true, decide_eq_true h1, cond_true, decide_eq_true h2, Bool.not_true, cond_false]
 have e1' : ref13_combine n (bL l) (([] : Lv) ++ [[AV.int f, AV.int t, AV.int 0]]) 2 (-1) (-1) = _ := e1
 rw [e1', Option.bind_some]
 unfold combR
 rw [if_pos (by omega)]
theorem ref13_Overlay_v (n : Nat) (a b : List B3) (ha : Canon a) (hal : a.length ≤ 40) (hb : Canon b) (hbl : b.length ≤ 40) (hn : 210 < n) :
  ref13_Overlay n (bL a) (bL b) = some (bL (combR fun m => overR (hold a m) (hold b m)).1, (combR fun m => overR (hold a m) (hold b m)).2) := by
 have hV : vldB a = true := (vldB_iff a).2 ⟨hal, ha⟩
 have hW : vldB b = true := (vldB_iff b).2 ⟨hbl, hb⟩
 obtain ⟨e1, e2⟩ := ref13_combine_v n a b 0 (-1) (-1) ha hb (by omega) (by omega) (.inl rfl) (by decide) hn
 have hE : (fun m => gcR 0 (-1) (-1) (hold a m) (hold b m)) = fun m => overR (hold a m) (hold b m) := by
  funext m
  have := hold_range ha m
  have := hold_range hb m
  unfold gcR overR
  repeat' split
  all_goals first | rfl | omega
 rw [hE] at e1
 unfold ref13_Overlay ref13_Overlay_1
 rw [ref13_Valid_v n a (by omega), Option.bind_some, hV, Bool.not_true, cond_false, ref13_Valid_v n b (by omega), Option.bind_some, hW, Bool.not_true, cond_false, e1, Option.bind_some]
theorem ref42_hand_v (n : Nat) (l : List B3) (hc : Canon l) (hl : l.length ≤ 40) {e : Ev} (hf : Frm e) (hk : e.k = 2) (hn : 210 < n) :
  ref42_hand n (bL l) e.a e.b e.f e.t = some (bL (combR fun m => rho e m (hold l m)).1, decide ((combR fun m => rho e m (hold l m)).2 = 0)) := by
 obtain ⟨f0, f1, f2, _, _⟩ := hf.full (.inl hk)
 have a0 := hf.a0
 have hM1 := only_map hc f0 f1 f2
 have hl1 := only_len hc e.f e.t hM1
 have hM2 := swap_map hM1.1 (f := e.a) hf.b0 hf.b1
 have hl2 := relabel_len hM1.1 (swR e.a e.b) (by unfold swR; rw [if_neg (by omega)]) hM2
 have hovl := ovl_rho hc hf (.inl hk)
 rw [if_pos hk] at hovl
 unfold ref42_hand ref42_hand_1
 rw [ref13_Only_v n l e.f e.t hc hl f0 f1 f2 hn, Option.bind_some, ref13_Swap_v n _ e.a e.b hM1.1 (by omega) hf.a0 hf.a1 hf.b0 hf.b1 hn, Option.bind_some, ref13_Overlay_v n l _ hc hl hM2.1 (by omega) hn, Option.bind_some, hovl]
 exact cF (fun _ => cF (fun _ => rfl) (fun h => absurd rfl h)) (fun h => absurd rfl h)
theorem imax_max (a b : Int) : imax a b = max a b := by unfold imax; omega
def growO {α : Type} (go1 : Lv × Int → Option α) (v8 : Lv) (v9 P Q y : Int) : Option α :=
 (bif (decide (0 < (v8.length : Int))) then bif ((decide ((-9223372036854775808) ≤ ((v8.length : Int) - 1))) && (decide (((v8.length : Int) - 1) ≤ 9223372036854775807))) then bif (decide (0 ≤ (imax ((v8.length : Int) - 1) 0))) then bif (decide ((imax ((v8.length : Int) - 1) 0) < (v8.length : Int))) then (bif (decide ((cI v8 (imax ((v8.length : Int) - 1) 0) 1) = P)) then (bif (decide ((cI v8 (imax ((v8.length : Int) - 1) 0) 2) = y)) then bif (decide (0 ≤ ((v8.length : Int) - 1))) then bif (decide (((v8.length : Int) - 1) < (v8.length : Int))) then go1 ((List.modify v8 (((v8.length : Int) - 1)).toNat (fun r => r.set 1 (AV.int Q))), (v9 + 1)) else none else none
 else bif (decide ((((v8.length : Int) + 1) * 24) ≤ 140737488355328)) then go1 ((v8 ++ [[(AV.int P), (AV.int Q), (AV.int y)]]), (v9 + 1)) else none)
 else bif (decide ((((v8.length : Int) + 1) * 24) ≤ 140737488355328)) then go1 ((v8 ++ [[(AV.int P), (AV.int Q), (AV.int y)]]), (v9 + 1)) else none) else none else none else none
 else bif (decide ((((v8.length : Int) + 1) * 24) ≤ 140737488355328)) then go1 ((v8 ++ [[(AV.int P), (AV.int Q), (AV.int y)]]), (v9 + 1)) else none)
theorem growO_v {α : Type} (go1 : Lv × Int → Option α) (o : List B3) (v9 p q y : Int) (hy : y ≠ -1) (hl : o.length ≤ 1000) : growO go1 (bL o) v9 p q y = go1 (bL (Dial.Blk.step o p q y), v9 + 1) := by
 unfold growO
 have hlen : ((bL o).length : Int) = (o.length : Int) := by simp
 rw [hlen]
 rcases List.eq_nil_or_concat o with rfl | ⟨l, b, rfl⟩
 ·rw [step_nil _ _ _ hy]
  exact cF (fun h => absurd h (by decide)) (fun _ => gN (by decide) rfl)
 ·rw [List.concat_eq_append] at *
  have hb : (l ++ [b])[l.length]? = some b := by simp
  obtain ⟨g0, g1, g2⟩ := bcell hb
  have hln : ((l ++ [b]).length : Int) = (l.length : Int) + 1 := by simp
  have e1 : ((l ++ [b]).length : Int) - 1 = (l.length : Int) := by omega
  have e2 : imax (l.length : Int) 0 = (l.length : Int) := by rw [imax_max]; omega
  have e3 : (l.length : Int).toNat = l.length := by omega
  rw [e1, e2, g1, g2, e3, bmod, step_snoc _ _ _ _ _ hy]
  have happ : bL (l ++ [b]) ++ [[AV.int p, AV.int q, AV.int y]] = bL (l ++ [b] ++ [⟨p, q, y⟩]) := by rw [bL_app (l ++ [b])]; rfl
  rw [happ]
  have hl' : l.length ≤ 1000 := by simp at hl; omega
  refine gN (by omega) (gO (by omega) (by omega) (gN (by omega) (gN (by omega) (cF (fun h1 => cF (fun h2 => gN (by omega) (gN (by omega) ?_)) (fun h2 => gN (by omega) ?_)) (fun h1 => gN (by omega) ?_)))))
  ·rw [if_pos ⟨h1, h2⟩, ← h2]
  ·rw [if_neg (fun h => h2 h.2)]
  ·rw [if_neg (fun h => h1 h.1)]
def parts (x y z f t : Int) (o : List B3) (b : B3) : Nat → List B3
 | 0 => o
 | 1 => prt o b.f (end1 b f) (car b x y z false)
 | 2 => prt (prt o b.f (end1 b f) (car b x y z false)) (end1 b f) (end1 b t) (car b x y z true)
 | _ => outB x y z f t o b
theorem ref42_outside_v (n : Nat) (l : List B3) (hc : Canon l) (hl : l.length ≤ 40) {x y z f t : Int} (ft : f < t) (x0 : 0 ≤ x) (y0 : 0 ≤ y) (z0 : 0 ≤ z) (hn : 100 < n) :
  ref42_outside n (bL l) x y z f t = some (bL (l.foldl (outB x y z f t) [])) := by
 unfold ref42_outside ref42_outside_1
 refine iterF_ind (fun s => ∃ i : Nat, s = (bL ((l.take i).foldl (outB x y z f t) []), (i : Int)) ∧ i ≤ l.length ∧ ((l.take i).foldl (outB x y z f t) []).length ≤ 3 * i) (fun s => l.length - s.2.toNat) _ ?_ n _ ⟨0, rfl, by omega, by simp⟩ (by first | omega | (simp only; omega))
 rintro _ go ⟨i, rfl, hi, hol⟩ ih
 simp only at ih ⊢
 unfold ref42_outside_2
 have hlm : ((bL l).length : Int) = (l.length : Int) := by rw [List.length_map]
 rw [hlm]
 refine cF (fun hlt => gN (by omega) ?_) (fun hlt => ?_)
 ·obtain ⟨b, hb⟩ := get_lt (l := l) (i := i) (by omega)
  obtain ⟨g0, g1, g2⟩ := bcell hb
  have hbd := asc_bd hc (List.mem_of_getElem? hb)
  obtain ⟨o, ho⟩ : ∃ o, o = (l.take i).foldl (outB x y z f t) [] := ⟨_, rfl⟩
  rw [← ho] at hol ⊢
  have hstep : (l.take (i + 1)).foldl (outB x y z f t) [] = outB x y z f t o b := by rw [take_snoc hb, List.foldl_append, ← ho]; rfl
  have hol2 := outB_len x y z f t o b
  have hgo : go (bL (outB x y z f t o b), (i : Int) + 1) = some (bL (l.foldl (outB x y z f t) [])) := ih _ ⟨i + 1, by rw [hstep]; rfl, by omega, by rw [hstep]; omega⟩ (by first | omega | (simp only; omega))
  have hpl : ∀ k, (parts x y z f t o b k).length ≤ o.length + 3 := fun k => by
   match k with
   | 0 => show o.length ≤ _; omega
   | 1 => have := part_len o b.f (end1 b f) (car b x y z false); show (prt o b.f (end1 b f) (car b x y z false)).length ≤ _; omega
   | 2 =>
    have h1 := part_len o b.f (end1 b f) (car b x y z false)
    have h2 := part_len (prt o b.f (end1 b f) (car b x y z false)) (end1 b f) (end1 b t) (car b x y z true)
    show (prt (prt o b.f (end1 b f) (car b x y z false)) (end1 b f) (end1 b t) (car b x y z true)).length ≤ _; omega
   | k + 3 => exact hol2
  refine iterF_ind (fun s => ∃ k : Nat, s = (bL (parts x y z f t o b k), (k : Int)) ∧ k ≤ 3) (fun s => 3 - s.2.toNat) _ ?_ n _ ⟨0, rfl, by omega⟩ (by first | omega | (simp only; omega))
  rintro _ go1 ⟨k, rfl, hk⟩ ih1
  simp only at ih1 ⊢
  unfold ref42_outside_3
  refine cF (fun hk3 => gN (by omega) (gN (by omega) (gO (by omega) (by omega) (gN (by omega) (gN (by omega) ?_))))) (fun hk3 => ?_)
  ·have hmx : imax b.f (imin f b.t) = end1 b f := by rw [imax_max, imin_min]; rfl
   have hmy : imax b.f (imin t b.t) = end1 b t := by rw [imax_max, imin_min]; rfl
   have h0 : cI (iL [b.f, end1 b f, end1 b t, b.t]) 0 0 = b.f := rfl
   have h1 : cI (iL [b.f, end1 b f, end1 b t, b.t]) 1 0 = end1 b f := rfl
   have h2 : cI (iL [b.f, end1 b f, end1 b t, b.t]) 2 0 = end1 b t := rfl
   have h3 : cI (iL [b.f, end1 b f, end1 b t, b.t]) 3 0 = b.t := rfl
   have hL : (((([] : Lv) ++ [[AV.int b.f]]) ++ [[AV.int (end1 b f)]]) ++ [[AV.int (end1 b t)]]) ++ [[AV.int b.t]] = iL [b.f, end1 b f, end1 b t, b.t] := rfl
   have key : ∀ (p q : Int) (mid : Bool), cI (iL [b.f, end1 b f, end1 b t, b.t]) (k : Int) 0 = p → cI (iL [b.f, end1 b f, end1 b t, b.t]) ((k : Int) + 1) 0 = q → (((k : Int) = 1) ↔ mid = true) → parts x y z f t o b (k + 1) = prt (parts x y z f t o b k) p q (car b x y z mid) →
     ref42_outside_4 n go go1 (bL l) x y z f t (i : Int) (bL (parts x y z f t o b k)) (k : Int) = some (bL (l.foldl (outB x y z f t) [])) := fun p q mid hp hq hm hpt => by
    have hgo1 := ih1 (bL (parts x y z f t o b (k + 1)), (k : Int) + 1) ⟨k + 1, rfl, by omega⟩ (by first | omega | (simp only; omega))
    rw [hpt] at hgo1
    have hplk := hpl k
    unfold prt at hgo1
    unfold ref42_outside_4
    rw [g0, g1, hmx, hmy, hL, hp, hq]
    refine cF (fun he => ?_) (fun he => ?_)
    ·rw [if_pos he] at hgo1; exact hgo1
    ·rw [if_neg he] at hgo1
     unfold ref42_outside_5
     rw [g0, g1, g2, hmx, hmy, hL, hp, hq]
     refine cF (fun hx => ?_) (fun hx => ?_)
     ·unfold ref42_outside_6
      rw [g0, g1, hmx, hmy, hL, hp, hq]
      refine cF (fun h1 => ?_) (fun h1 => ?_)
      ·have hmt := hm.1 h1
       have hcar : car b x y z mid = y := by unfold car; rw [if_pos hx, hmt]; rfl
       rw [hcar] at hgo1
       exact (growO_v go1 (parts x y z f t o b k) (k : Int) p q y (by omega) (by omega)).trans hgo1
      ·have hmf : mid = false := by cases mid; rfl; exact absurd (hm.2 rfl) h1
       have hcar : car b x y z mid = z := by unfold car; rw [if_pos hx, hmf]; rfl
       rw [hcar] at hgo1
       exact (growO_v go1 (parts x y z f t o b k) (k : Int) p q z (by omega) (by omega)).trans hgo1
     ·have hcar : car b x y z mid = b.c := by unfold car; rw [if_neg hx]
      rw [hcar] at hgo1
      exact (growO_v go1 (parts x y z f t o b k) (k : Int) p q b.c (by omega) (by omega)).trans hgo1
   match k, hk3 with
   | 0, _ => exact key _ _ false h0 h1 (by simp) rfl
   | 1, _ => exact key _ _ true h1 h2 (by simp) rfl
   | 2, _ => exact key _ _ false h2 h3 (by simp) rfl
   | k + 3, h => exact absurd h (by omega)
  ·have : k = 3 := by omega
   subst this
   exact gO (by omega) (by omega) hgo
 ·have : i = l.length := by omega
  subst this
  rw [List.take_length]
set_option maxRecDepth 100000
theorem ref42_pick_v (n : Nat) {c k : Int} (hc : In64 c) (hk : 0 < k) : ref42_pick n c k = some (pk c k) := by
 unfold ref42_pick ref42_pick_1 pk
 unfold In64 at hc
 grind
theorem law42_pick_v (n : Nat) {c k : Int} (hc : In64 c) (hk : 0 < k) : law42_pick n c k = some (pk c k) := by
 unfold law42_pick law42_pick_1 pk
 unfold In64 at hc
 grind
theorem tcell {xs : List (Int × Int × Int)} {i : Nat} {x : Int × Int × Int} (h : xs[i]? = some x) : cI (xs.map triR) (i : Int) 0 = x.1 ∧ cI (xs.map triR) (i : Int) 1 = x.2.1 ∧ cI (xs.map triR) (i : Int) 2 = x.2.2 := by
 have hc : ∀ k, cA (xs.map triR) (i : Int) k = (triR x).getD k (.int 0) := fun k => cA_map (by simpa using h)
 refine ⟨?_, ?_, ?_⟩ <;> (simp only [cI, hc]; rfl)
def DebtOk (s : Int) (d : Int × Int × Int) : Prop := (0 ≤ d.1 ∧ d.1 ≤ 7) ∧ (0 ≤ d.2.1 ∧ d.2.1 ≤ 7) ∧ d.1 ≠ d.2.1 ∧ has s d.1 = true ∧ has s d.2.1 = true ∧ 1 ≤ d.2.2 ∧ d.2.2 ≤ 1000
theorem ref42_Owe_v (n : Nat) {s : Int} (s0 : 0 ≤ s) (s1 : s ≤ 255) (xs : List (Int × Int × Int)) (hx : ∀ x ∈ xs, In64 x.1 ∧ In64 x.2.1 ∧ In64 x.2.2) (hn : 20 < n) :
  Ok (fun r => ∃ ds : List (Int × Int × Int), r = ds.map triR ∧ ds.length ≤ 12 ∧ ∀ d ∈ ds, DebtOk s d) (ref42_Owe n s (xs.map triR)) := by
 unfold ref42_Owe ref42_Owe_1
 refine iterF_ok (fun q => ∃ (i : Nat) (ds : List (Int × Int × Int)), q = (ds.map triR, (i : Int)) ∧ i ≤ 12 ∧ ds.length ≤ i ∧ ∀ d ∈ ds, DebtOk s d) (fun q => 12 - q.2.toNat) _ ?_ n _ ⟨0, [], rfl, by omega, by simp, fun d h => by simp at h⟩ (by first | omega | (simp only; omega))
 rintro _ go ⟨i, ds, rfl, hi, hl, hd⟩ ih
 simp only at ih ⊢
 unfold ref42_Owe_2
 refine oF (fun h1 => oF (fun h2 => hN (by omega) ?_) (fun _ => hD ⟨ds, rfl, by omega, hd⟩)) (fun _ => hD ⟨ds, rfl, by omega, hd⟩)
 rw [List.length_map] at h1
 obtain ⟨x, hxx⟩ := get_lt (l := xs) (i := i) (by omega)
 obtain ⟨g0, g1, g2⟩ := tcell hxx
 obtain ⟨x0, x1, x2⟩ := hx x (List.mem_of_getElem? hxx)
 have b0 := pk_bd x.1 (k := 8) (by decide)
 have b1 := pk_bd x.2.1 (k := 8) (by decide)
 have b2 := pk_bd x.2.2 (k := 1000) (by decide)
 have hgo : Ok _ (go (ds.map triR, (i : Int) + 1)) := ih _ ⟨i + 1, ds, rfl, by omega, by omega, hd⟩ (by first | omega | (simp only; omega))
 rw [g0, g1, g2, ref42_pick_v n x0 (by decide), Option.bind_some, ref42_pick_v n x1 (by decide), Option.bind_some, ref42_pick_v n x2 (by decide), Option.bind_some]
 rw [shr_mod s0 s1 b0.1 (by omega), shr_mod s0 s1 b1.1 (by omega)]
 refine hO (by omega) (by omega) ?_
 by_cases hne : pk x.1 8 = pk x.2.1 8
 ·rw [decide_eq_true hne, Bool.not_true, cond_false]
  exact hO (by omega) (by omega) hgo
 rw [decide_eq_false hne, Bool.not_false, cond_true]
 refine hN b0.1 (oB (fun hs0 => hN b1.1 (oB (fun hs1 => ?_) (fun _ => hO (by omega) (by omega) hgo))) (fun _ => hO (by omega) (by omega) hgo))
 refine hN (by rw [List.length_map]; omega) (hO (by omega) (by omega) ?_)
 have e : ds.map triR ++ [[AV.int (pk x.1 8), AV.int (pk x.2.1 8), AV.int (1 + pk x.2.2 1000)]] = (ds ++ [(pk x.1 8, pk x.2.1 8, 1 + pk x.2.2 1000)]).map triR := by rw [List.map_append]; rfl
 rw [e]
 refine ih _ ⟨i + 1, _, rfl, by omega, by simp; omega, fun d hd2 => ?_⟩ (by first | omega | (simp only; omega))
 rcases List.mem_append.1 hd2 with h | h
 ·exact hd d h
 ·rw [List.mem_singleton] at h
  subst h
  exact ⟨⟨b0.1, (by omega : pk x.1 8 ≤ 7)⟩, ⟨b1.1, (by omega : pk x.2.1 8 ≤ 7)⟩, hne, hs0, hs1, (by omega : 1 ≤ 1 + pk x.2.2 1000), (by omega : 1 + pk x.2.2 1000 ≤ 1000)⟩
theorem give_few {l : List B3} (hc : Canon l) {f t c : Int} (h0 : 0 ≤ f) (h : IsMap (fun m => gcR 0 (-1) (-1) (hold l m) (hold [⟨f, t, c⟩] m)) (mapOf fun m => gcR 0 (-1) (-1) (hold l m) (hold [⟨f, t, c⟩] m))) (h3 : 0 ≤ c) : (mapOf fun m => gcR 0 (-1) (-1) (hold l m) (hold [⟨f, t, c⟩] m)).length ≤ l.length + 2 := by
 have e : (fun m => gcR 0 (-1) (-1) (hold l m) (hold [⟨f, t, c⟩] m)) = fun m => (fun n x => gcR 0 (-1) (-1) x (if f ≤ n ∧ n < t then c else -1)) m (hold l m) := by
  funext m; rw [hold_one]
 rw [e] at h ⊢
 refine change_len hc f t (fun n x => gcR 0 (-1) (-1) x (if f ≤ n ∧ n < t then c else -1)) (fun n m x hnm => by simp only [hnm]) (fun n hn => by simp only [hn, if_false]; decide) (fun n x => ?_) h h0
 by_cases hn : f ≤ n ∧ n < t
 ·right
  simp only [hn, and_self, if_true]
  unfold gcR
  simp [h3]
 ·left; simp only [hn, if_false]; decide
theorem take_few {l : List B3} (hc : Canon l) {f t : Int} (h0 : 0 ≤ f) (h : IsMap (fun m => gcR 1 (-1) (-1) (hold l m) (hold [⟨f, t, 0⟩] m)) (mapOf fun m => gcR 1 (-1) (-1) (hold l m) (hold [⟨f, t, 0⟩] m))) : (mapOf fun m => gcR 1 (-1) (-1) (hold l m) (hold [⟨f, t, 0⟩] m)).length ≤ l.length + 2 := by
 have e : (fun m => gcR 1 (-1) (-1) (hold l m) (hold [⟨f, t, 0⟩] m)) = fun m => (fun n x => gcR 1 (-1) (-1) x (if f ≤ n ∧ n < t then 0 else -1)) m (hold l m) := by
  funext m; rw [hold_one]
 rw [e] at h ⊢
 have hz : ∀ n, gcR 1 (-1) (-1) (-1) (if f ≤ n ∧ n < t then 0 else -1) = -1 := fun n => by
  by_cases hn : f ≤ n ∧ n < t
  ·simp only [hn, and_self, if_true]; decide
  ·simp only [hn, if_false]; decide
 exact change_len hc f t (fun n x => gcR 1 (-1) (-1) x (if f ≤ n ∧ n < t then 0 else -1)) (fun n m x hnm => by simp only [hnm]) (fun n hn => hz n) (fun n x => .inl (hz n)) h h0
theorem ref13_Made_few (n : Nat) (xs : List (Int × Int × Int)) (hx : ∀ x ∈ xs, In64 x.1 ∧ In64 x.2.1 ∧ In64 x.2.2) (h8 : xs.length ≤ 8) (hn : 210 < n) : Ok (fun q => ∃ l, q = bL l ∧ Canon l ∧ l.length ≤ 16) (ref13_Made n (xs.map triR)) := by
 unfold ref13_Made ref13_Made_1
 refine iterF_ok (fun s => ∃ (i : Nat) (l : List B3), s = (bL l, (i : Int)) ∧ i ≤ xs.length ∧ Canon l ∧ l.length ≤ 2 * i) (fun s => 12 - s.2.toNat) _ ?_ n _ ⟨0, [], rfl, by omega, trivial, by simp⟩ (by first | omega | (simp only; omega))
 rintro _ go ⟨i, l, rfl, hi, hc, hl⟩ ih
 simp only at ih ⊢
 unfold ref13_Made_2
 refine oF (fun h1 => oF (fun h2 => hN (by omega) ?_) (fun _ => hD ⟨l, rfl, hc, by omega⟩)) (fun _ => hD ⟨l, rfl, hc, by omega⟩)
 rw [List.length_map] at h1
 obtain ⟨x, hxx⟩ := get_lt (l := xs) (i := i) (by omega)
 obtain ⟨g0, g1, g2⟩ := tcell hxx
 obtain ⟨x0, x1, x2⟩ := hx x (List.mem_of_getElem? hxx)
 obtain ⟨p0, p1, p2⟩ := pieceR_bd x.1 x.2.1
 have hk := pk_bd x.2.2 (k := 5) (by decide)
 rw [g0, g1, g2, ref13_Piece_v n x0 x1, Option.bind_some, ref13_pick_v n x2 (by decide), Option.bind_some]
 refine oF (fun h3 => ?_) (fun h3 => ?_)
 ·refine hO (by omega) (by omega) ?_
  have h4 : pk x.2.2 5 < 4 := h3
  have k1 : 0 ≤ 2 * pk x.2.2 5 := by omega
  have k2 : 2 * pk x.2.2 5 ≤ 7 := by omega
  have k3 : l.length ≤ 40 := by omega
  obtain ⟨e1, e2⟩ := ref13_Give_v n l _ _ (2 * pk x.2.2 5) hc k3 p0 p1 p2 k1 k2 hn
  have hf := give_few hc p0 e2 k1
  rw [e1, Option.bind_some]
  unfold combR
  rw [if_pos (by omega)]
  dsimp only
  refine hO (by omega) (by omega) (ih _ ⟨i + 1, _, rfl, by omega, e2.1, by omega⟩ (by first | omega | (simp only; omega)))
 ·obtain ⟨e1, e2⟩ := ref13_Take_v n l _ _ hc (by omega) p0 p1 p2 hn
  have hf := take_few hc p0 e2
  rw [e1, Option.bind_some]
  unfold combR
  rw [if_pos (by omega)]
  dsimp only
  refine hO (by omega) (by omega) (ih _ ⟨i + 1, _, rfl, by omega, e2.1, by omega⟩ (by first | omega | (simp only; omega)))
def debt1 (l : List Int) (d : Int × Int × Int) : List Int := (l.set d.1.toNat (g l d.1 - d.2.2)).set d.2.1.toNat (g (l.set d.1.toNat (g l d.1 - d.2.2)) d.2.1 + d.2.2)
def debtB (ds : List (Int × Int × Int)) : List Int := ds.foldl debt1 (List.replicate 8 0)
theorem debtB_snoc (ds : List (Int × Int × Int)) (d : Int × Int × Int) : debtB (ds ++ [d]) = debt1 (debtB ds) d := by unfold debtB; rw [List.foldl_append]; rfl
theorem debt1_len (l : List Int) (d : Int × Int × Int) : (debt1 l d).length = l.length := by unfold debt1; rw [List.length_set, List.length_set]
theorem debt1_g {l : List Int} (hl : l.length = 8) {s : Int} {d : Int × Int × Int} (hd : DebtOk s d) {c : Int} (c0 : 0 ≤ c) (c1 : c ≤ 7) : g (debt1 l d) c = g l c - (if c = d.1 then d.2.2 else 0) + (if c = d.2.1 then d.2.2 else 0) := by
 obtain ⟨⟨h1, h2⟩, ⟨h3, h4⟩, h5, _⟩ := hd
 have hl' : (l.set d.1.toNat (g l d.1 - d.2.2)).length = 8 := by rw [List.length_set, hl]
 unfold debt1
 rw [g_set hl' h3 h4 c0 c1, g_set hl h1 h2 h3 h4, g_set hl h1 h2 c0 c1]
 by_cases ha : c = d.2.1
 ·subst ha
  rw [if_pos rfl, if_neg (Ne.symm h5), if_pos rfl, if_neg (Ne.symm h5)]; omega
 ·rw [if_neg ha, if_neg ha]
  by_cases hb : c = d.1
  ·subst hb; rw [if_pos rfl, if_pos rfl]; omega
  ·rw [if_neg hb, if_neg hb]; omega
theorem debt1_sum {l : List Int} (hl : l.length = 8) {s : Int} {d : Int × Int × Int} (hd : DebtOk s d) : (debt1 l d).sum = l.sum := by
 obtain ⟨⟨h1, h2⟩, ⟨h3, h4⟩, h5, _⟩ := hd
 have hl' : (l.set d.1.toNat (g l d.1 - d.2.2)).length = 8 := by rw [List.length_set, hl]
 unfold debt1
 rw [sum_s hl' _ h3 h4, sum_s hl _ h1 h2, g_set hl h1 h2 h3 h4, if_neg (Ne.symm h5)]; omega
theorem debtB_ok {s : Int} (ds : List (Int × Int × Int)) (h : ∀ d ∈ ds, DebtOk s d) : (debtB ds).length = 8 ∧ (debtB ds).sum = 0 ∧ ∀ c, 0 ≤ c → c ≤ 7 → (-1000 * (ds.length : Int) ≤ g (debtB ds) c ∧ g (debtB ds) c ≤ 1000 * (ds.length : Int)) ∧ (has s c = false → g (debtB ds) c = 0) := by
 suffices H : ∀ (m : Nat) (ds : List (Int × Int × Int)), ds.length = m → (∀ d ∈ ds, DebtOk s d) → (debtB ds).length = 8 ∧ (debtB ds).sum = 0 ∧ ∀ c, 0 ≤ c → c ≤ 7 → (-1000 * (ds.length : Int) ≤ g (debtB ds) c ∧ g (debtB ds) c ≤ 1000 * (ds.length : Int)) ∧ (has s c = false → g (debtB ds) c = 0) from H _ ds rfl h
 intro m
 induction m with
 | zero =>
  intro ds hm _
  have : ds = [] := List.length_eq_zero_iff.1 hm
  subst this
  have hz : ∀ c, 0 ≤ c → c ≤ 7 → g (debtB []) c = 0 := fin8 (fun c => g (debtB []) c = 0) (by decide)
  exact ⟨by decide, by decide, fun c c0 c1 => by rw [hz c c0 c1]; simp⟩
 | succ m ih =>
  intro ds hm h
  rcases List.eq_nil_or_concat ds with rfl | ⟨es, d, rfl⟩
  ·simp at hm
  ·rw [List.concat_eq_append] at *
   obtain ⟨i1, i2, i3⟩ := ih es (by simp at hm; omega) fun d hd => h d (by simp [hd])
   have hd := h d (by simp)
   rw [debtB_snoc]
   refine ⟨by rw [debt1_len, i1], by rw [debt1_sum i1 hd, i2], fun c c0 c1 => ?_⟩
   have hd' := hd
   obtain ⟨⟨h1, h2⟩, ⟨h3, h4⟩, h5, h6, h7, h8, h9⟩ := hd'
   rw [debt1_g i1 hd c0 c1]
   obtain ⟨j1, j2⟩ := i3 c c0 c1
   have hlen : (((es ++ [d]).length : Nat) : Int) = (es.length : Int) + 1 := by simp
   rw [hlen]
   refine ⟨by split <;> split <;> omega, fun hc => ?_⟩
   rw [j2 hc, if_neg (fun h => by rw [h, h6] at hc; cases hc), if_neg (fun h => by rw [h, h7] at hc; cases hc)]; rfl
structure MadeW (w : Wd) : Prop where
 v : WV w
 few : w.bl.length ≤ 16
 bd : ∀ c, 0 ≤ c → c ≤ 7 → -12000 ≤ g w.ba c ∧ g w.ba c ≤ 12000
 lv : ∀ c, 0 ≤ c → c ≤ 7 → g w.le c ≤ 4
 some : ∃ c, 0 ≤ c ∧ c ≤ 7 ∧ has w.al c = true
abbrev wT (w : Wd) : Int × Int × Lv × Lv × Lv := (w.al, w.ev, bL w.bl, iL w.ba, iL w.le)
theorem or_sub {s t : Int} (s0 : 0 ≤ s) (s1 : s ≤ 255) (t0 : 0 ≤ t) (t1 : t ≤ 255) : 0 ≤ IOp.f .or s t ∧ IOp.f .or s t ≤ 255 ∧ subS s (IOp.f .or s t) := by
 have ha : BitVec.ofInt 64 s = BitVec.ofNat 64 s.toNat := by
  rw [← BitVec.ofInt_natCast, Int.toNat_of_nonneg s0]
 have hb : BitVec.ofInt 64 t = BitVec.ofNat 64 t.toNat := by
  rw [← BitVec.ofInt_natCast, Int.toNat_of_nonneg t0]
 have hle : s.toNat ||| t.toNat < 2 ^ 8 := Nat.or_lt_two_pow (by omega) (by omega)
 have hE : IOp.f .or s t = ((s.toNat ||| t.toNat : Nat) : Int) := by
  show IntKind.i64.wrap ((BitVec.ofInt 64 s ||| BitVec.ofInt 64 t).toNat : Int) = _
  rw [ha, hb, BitVec.toNat_or, BitVec.toNat_ofNat, BitVec.toNat_ofNat, Nat.mod_eq_of_lt (by omega), Nat.mod_eq_of_lt (by omega)]
  generalize s.toNat ||| t.toNat = x at hle
  have : ((x : Int)) % 18446744073709551616 = (x : Int) := by omega
  have hd : decide ((x : Int) ≥ 9223372036854775808) = false := by rw [decide_eq_false_iff_not]; omega
  show (if (true && decide ((x : Int) % 18446744073709551616 ≥ 9223372036854775808)) = true then (x : Int) % 18446744073709551616 - 18446744073709551616 else (x : Int) % 18446744073709551616) = _
  rw [this, hd]; rfl
 rw [hE]
 refine ⟨by omega, by omega, ?_⟩
 unfold subS
 rw [Int.toNat_natCast]
 refine Nat.eq_of_testBit_eq fun i => ?_
 rw [Nat.testBit_and, Nat.testBit_or]
 cases s.toNat.testBit i <;> rfl
theorem ref42_Made_v (n : Nat) {v0 v1 v3 : Int} (h0 : In64 v0) (h1 : In64 v1) (h3 : In64 v3) (xs : List (Int × Int × Int)) (hx : ∀ x ∈ xs, In64 x.1 ∧ In64 x.2.1 ∧ In64 x.2.2) (ds : List (Int × Int × Int)) (hl : ds.length ≤ 12) (hd : ∀ d ∈ ds, DebtOk (1 + pk v0 255) d) (hn : 220 < n) :
  Ok (fun r => ∃ w, r = wT w ∧ MadeW w ∧ w.ba = debtB ds ∧ w.al = 1 + pk v0 255) (ref42_Made n v0 v1 (xs.map triR) v3 (ds.map triR)) := by
 have b0 := pk_bd v0 (k := 255) (by decide)
 have b1 := pk_bd v1 (k := 256) (by decide)
 have b3 := pk_bd v3 (k := 256) (by decide)
 unfold ref42_Made ref42_Made_1
 rw [ref42_pick_v n h0 (by decide), Option.bind_some, ref42_pick_v n h1 (by decide), Option.bind_some]
 refine hO (by omega) (by omega) (hN ?_ (hN ?_ ?_))
 ·rw [imin_min]; omega
 ·rw [imin_min]; omega
 have htk : List.take (imin ((xs.map triR).length : Int) 8).toNat (xs.map triR) = (xs.take 8).map triR := by
  rw [imin_min, List.length_map, List.map_take]
  by_cases h : xs.length ≤ 8
  ·rw [show (min (xs.length : Int) 8).toNat = xs.length by omega, List.take_of_length_le (by simp), List.take_of_length_le (by simpa using h)]
  ·rw [show (min (xs.length : Int) 8).toNat = 8 by omega]
 rw [htk]
 obtain ⟨_, hm, l0, rfl, hc0, hl0⟩ := ref13_Made_few n (xs.take 8) (fun x h => hx x (List.mem_of_mem_take h)) (by rw [List.length_take]; omega) (by omega)
 rw [hm, Option.bind_some]
 obtain ⟨hal, hAl⟩ : ∃ s, s = 1 + pk v0 255 := ⟨_, rfl⟩
 rw [← hAl] at hd ⊢
 have s0 : 1 ≤ hal := by omega
 have s1 : hal ≤ 255 := by omega
 obtain ⟨c, cc0, cc1, hcc⟩ := some_bit s0 s1
 refine iterF_ok (fun s => 0 ≤ s ∧ s ≤ c) (fun s => 8 - s.toNat) _ ?_ n _ ⟨by decide, cc0⟩ (by first | omega | (simp only; omega))
 rintro k go ⟨k0, k1⟩ ih
 unfold ref42_Made_2
 refine hN k0 ?_
 unfold ref42_Made_3
 rw [← hAl, shr_mod (by omega) s1 k0 (by omega)]
 have hkc : has hal k = false → k + 1 ≤ c := fun hk => by
  have : k ≠ c := fun h => by rw [h, hcc] at hk; cases hk
  omega
 refine oBN (fun hk => ?_) (fun hk => hO (by omega) (by omega) (ih _ ⟨by omega, hkc hk⟩ (by first | omega | (simp only; omega))))
 clear ih
 refine iterF_ok (fun s => ∃ (m : List B3) (i : Nat) (L : List Int), s = (bL m, (i : Int), iL L) ∧ i ≤ 8 ∧ Canon m ∧ m.length ≤ 16 ∧ L.length = i ∧ (∀ x, hold m x ≠ -1 → has hal (hold m x) = true ∨ (i : Int) ≤ hold m x)
  ∧ ∀ (j : Nat) (y : Int), L[j]? = some y → (0 ≤ y ∧ y ≤ 4) ∧ (has hal (j : Int) = true → 3 ≤ y) ∧ (has hal (j : Int) = false → y = 0)) (fun s => 8 - s.2.1.toNat) _ ?_ n _ ⟨l0, 0, [], rfl, by omega, hc0, hl0, rfl, fun x hx => .inr (by have := hold_range hc0 x; omega), fun j y h => by simp at h⟩ (by first | omega | (simp only; omega))
 rintro _ go ⟨m, i, L, rfl, hi, hmc, hml, hL, hown, hlv⟩ ih
 simp only at ih ⊢
 unfold ref42_Made_4
 refine oF (fun h8 => hN (by omega) ?_) (fun h8 => ?_)
 ·rw [← hAl, shr_mod (by omega) s1 (by omega) (by omega)]
  have hstep : ∀ (m' : List B3) (v : Int), Canon m' → m'.length ≤ 16 → (∀ x, hold m' x ≠ -1 → has hal (hold m' x) = true ∨ (i : Int) + 1 ≤ hold m' x) → (0 ≤ v ∧ v ≤ 4) → (has hal (i : Int) = true → 3 ≤ v) → (has hal (i : Int) = false → v = 0) → Ok (fun r => ∃ w, r = wT w ∧ MadeW w ∧ w.ba = debtB ds ∧ w.al = hal) (go (bL m', (i : Int) + 1, iL L ++ [[AV.int v]])) := fun m' v q1 q2 q3 q4 q5 q6 => by
   refine ih _ ⟨m', i + 1, L ++ [v], by rw [iapp]; rfl, by omega, q1, q2, by simp [hL], fun x hx => by have := q3 x hx; simpa using this, fun j y hj => ?_⟩ (by first | omega | (simp only; omega))
   by_cases h : j < L.length
   ·rw [List.getElem?_append_left h] at hj; exact hlv j y hj
   ·have hj2 : j = L.length := by
     have := (List.getElem?_eq_some_iff.1 hj).1
     simp at this; omega
    subst hj2
    rw [List.getElem?_append_right (Nat.le_refl _)] at hj
    simp at hj
    subst hj
    rw [hL]; exact ⟨q4, q5, q6⟩
  refine oBN (fun hb => ?_) (fun hb => ?_)
  ·have hbt : Int.tmod (IOp.f .shr (pk v3 256) (i : Int)) 2 = if has (pk v3 256) (i : Int) then 1 else Int.tmod (IOp.f .shr (pk v3 256) (i : Int)) 2 := by
    have := shr_mod (s := pk v3 256) (c := (i : Int)) b3.1 (by omega) (by omega) (by omega)
    split
    ·rename_i h; rw [h] at this; exact of_decide_eq_true this
    ·rfl
   have hb2 : 0 ≤ Int.tmod (IOp.f .shr (pk v3 256) (i : Int)) 2 ∧ Int.tmod (IOp.f .shr (pk v3 256) (i : Int)) 2 < 2 := by
    refine tmod_bd ?_ (by decide)
    show 0 ≤ Int.fdiv (pk v3 256) (2 ^ (Nat.min (i : Int).toNat 64))
    exact Int.fdiv_nonneg b3.1 (Int.pow_nonneg (by decide))
   rw [ref42_pick_v n h3 (by decide), Option.bind_some]
   refine hO (by omega) (by omega) (hN (by rw [ilen]; omega) (hO (by omega) (by omega) ?_))
   refine hstep m _ hmc hml (fun x hx => ?_) (by omega) (fun _ => by omega) (fun h => by rw [hb] at h; cases h)
   rcases hown x hx with h | h
   ·exact .inl h
   ·by_cases he : hold m x = (i : Int)
    ·left; rw [he]; exact hb
    ·right; omega
  ·have hsm := swap_map hmc (f := (i : Int)) (t := k) k0 (by omega)
   have hlen := relabel_len hmc (swR (i : Int) k) (by unfold swR; rw [if_neg (by omega)]) hsm
   rw [ref13_Swap_v n m (i : Int) k hmc (by omega) (by omega) (by omega) k0 (by omega) (by omega), Option.bind_some]
   refine hN (by rw [ilen]; omega) (hO (by omega) (by omega) ?_)
   refine hstep _ 0 hsm.1 (by omega) (fun x hx => ?_) (by omega) (fun h => by rw [hb] at h; cases h) (fun _ => rfl)
   rw [hsm.at x] at hx ⊢
   split at hx
   ·rename_i hr
    rw [if_pos hr]
    unfold swR at hx ⊢
    by_cases he : hold m x = (i : Int)
    ·rw [if_pos he]; exact .inl hk
    ·rw [if_neg he] at hx ⊢
     rcases hown x hx with h | h
     ·exact .inl h
     ·right; omega
   ·exact absurd rfl hx
 ·have hi8 : i = 8 := by omega
  subst hi8
  clear ih
  obtain ⟨d1, d2, d3⟩ := debtB_ok ds hd
  have hsub := or_sub (s := hal) (t := pk v1 256) (by omega) s1 b1.1 (by omega)
  have hgl : ∀ c, 0 ≤ c → c ≤ 7 → ∃ y, L[c.toNat]? = some y ∧ g L c = y := fun c c0 c1 => by
   obtain ⟨y, hy⟩ := get_lt (l := L) (i := c.toNat) (by omega)
   exact ⟨y, hy, by unfold g; rw [List.getD_eq_getElem?_getD, hy]; rfl⟩
  have hgl2 : ∀ c, 0 ≤ c → c ≤ 7 → (0 ≤ g L c ∧ g L c ≤ 4) ∧ (has hal c = true → 3 ≤ g L c) ∧ (has hal c = false → g L c = 0) := fun c c0 c1 => by
   obtain ⟨y, hy, he⟩ := hgl c c0 c1
   have := hlv _ y hy
   rw [Int.toNat_of_nonneg c0] at this
   rw [he]; exact this
  refine iterF_ok (fun s => ∃ i : Nat, s = ((i : Int), iL (debtB (ds.take i))) ∧ i ≤ ds.length) (fun s => ds.length - s.1.toNat) _ ?_ n _ ⟨0, rfl, by omega⟩ (by first | omega | (simp only; omega))
  rintro _ go ⟨i, rfl, hi⟩ ih
  simp only at ih ⊢
  unfold ref42_Made_5
  refine oF (fun h1 => hN (by omega) ?_) (fun h1 => ?_)
  ·rw [List.length_map] at h1
   obtain ⟨d, hdd⟩ := get_lt (l := ds) (i := i) (by omega)
   obtain ⟨g0, g1, g2⟩ := tcell hdd
   have hdok := hd d (List.mem_of_getElem? hdd)
   obtain ⟨⟨p1, p2⟩, ⟨p3, p4⟩, p5, p6, p7, p8, p9⟩ := hdok
   obtain ⟨t1, t2, t3⟩ := debtB_ok (ds.take i) (fun d h => hd d (List.mem_of_mem_take h))
   have hgo := ih ((i : Int) + 1, iL (debtB (ds.take (i + 1)))) ⟨i + 1, rfl, by omega⟩ (by first | omega | (simp only; omega))
   rw [take_snoc hdd, debtB_snoc] at hgo
   have t4 := (t3 d.1 p1 p2).1
   have t5 := (t3 d.2.1 p3 p4).1
   have hlt : ((ds.take i).length : Int) ≤ 12 := by rw [List.length_take]; omega
   have hl8 : ((debtB (ds.take i)).set d.1.toNat (g (debtB (ds.take i)) d.1 - d.2.2)).length = 8 := by rw [List.length_set, t1]
   have e5 : g ((debtB (ds.take i)).set d.1.toNat (g (debtB (ds.take i)) d.1 - d.2.2)) d.2.1 = g (debtB (ds.take i)) d.2.1 := by rw [g_set t1 p1 p2 p3 p4, if_neg (Ne.symm p5)]
   rw [g0, g1, g2, ← hAl, shr_mod (by omega) s1 p1 p2, shr_mod (by omega) s1 p3 p4, gcell t1 p1 p2, imod, gcell hl8 p3 p4, imod, p6, p7]
   have hlen8 : ((iL (debtB (ds.take i))).length : Int) = 8 := by rw [ilen, t1]; rfl
   refine hN p1 (hN p2 (hN p3 (hN p4 ?_)))
   rw [cond_true, cond_true]
   exact hN (by omega) (hO (by omega) (by omega) (hN (by omega) (hO (by omega) (by omega) (hO (by omega) (by omega) hgo))))
  ·have hie : i = ds.length := by rw [List.length_map] at h1; omega
   subst hie
   rw [List.take_length, ← hAl]
   refine hD ⟨⟨hal, IOp.f .or hal (pk v1 256), m, debtB ds, L⟩, rfl, ⟨⟨hsub.1, hsub.2.1, by show 0 ≤ hal; omega, hsub.2.2, d1, hL, hmc, by show m.length ≤ 40; omega, fun b hb => ?_, fun c c0 c1 => ?_, fun c c0 c1 => ?_, fun c c0 c1 hc => ⟨(d3 c c0 c1).2 hc, (hgl2 c c0 c1).2.2 hc⟩, d2, fun c d c0 c1 d0 d1' hc hd' => ?_⟩, hml, fun c c0 c1 => ?_, fun c c0 c1 => ?_, ⟨c, cc0, cc1, hcc⟩⟩, rfl, rfl⟩
   ·have hbd := asc_bd hmc hb
    have := hold_mem hmc hb (n := b.f) (by omega)
    rcases hown b.f (by omega) with h | h
    ·rw [this] at h; exact h
    ·omega
   ·have := (d3 c c0 c1).1
    show -1000000000000 ≤ g (debtB ds) c ∧ g (debtB ds) c ≤ 1000000000000
    omega
   ·have := (hgl2 c c0 c1).1
    show 0 ≤ g L c ∧ g L c ≤ 9
    omega
   ·have q1 := hgl2 c c0 c1
    have q2 := (hgl2 d d0 d1').2.1 hd'
    show g L c - g L d ≤ 1
    omega
   ·have := (d3 c c0 c1).1
    show -12000 ≤ g (debtB ds) c ∧ g (debtB ds) c ≤ 12000
    omega
   ·have := (hgl2 c c0 c1).1
    show g L c ≤ 4
    omega
end Go.Proofs.YtgckmifmjiklmaaGreat
namespace Go.Sx
open Go Go.RowKit Go.Dial Go.ChangeShapes Go.WideShapes Go.ChangeAt Go.WideMaps Go.WideElems
def In64 (n : Int) : Prop := -9223372036854775808 ≤ n ∧ n ≤ 9223372036854775807
inductive AVok : AV → Prop
 | int (n : Int) (h : In64 n) : AVok (.int n)
 | bool (b : Bool) : AVok (.bool b)
 | raw (s : ByteArray) (h : s.size ≤ maxLen) : AVok (.raw (.string s))
 | sl (t : Ty) (l : List (List AV)) (h : l.length ≤ maxLen) (hty : ∀ r ∈ l, r.map AV.ty = t.list) (hr : ∀ r ∈ l, ∀ x ∈ r, AVok x) : AVok (.sl t l)
theorem AVok.i {x : AV} (h : AVok x) (ht : x.ty = .int) : ∃ n, x = .int n ∧ In64 n := by
 cases h with
 | int n h => exact ⟨n, rfl, h⟩
 | _ => cases ht
section
variable (P : Program)
def flatF (go : Nat → Option (List Ty)) : List Field → Nat → Option (List Ty)
 | [], _ => some []
 | f :: fs, off => if f.offset = off then (go f.type).bind fun a => if P.cellsOf f.type = a.length then (flatF go fs (off + a.length)).map fun b => a ++ b else none else none
def flatC : Nat → Nat → Option (List Ty)
 | 0, _ => none
 | d + 1, t =>
  match P.underlying t with
  | some .bool => some [.bool]
  | some (.int .i64) => some [.int]
  | some .string => some [.raw]
  | some (.slice e) => (flatC d e).bind fun l => if P.cellsOf e = l.length ∧ 0 < l.length then some [.sl (l.foldr .cons .nil)] else none
  | some (.struct fs) => (flatF P (flatC d) fs.toList 0).bind fun l => if P.cellsOf t = l.length then some l else none
  | some (.array n e) => (flatC d e).bind fun l => if P.cellsOf e = l.length ∧ P.cellsOf t = n * l.length then some (List.replicate n l).flatten else none
  | _ => none
def isAggC (t : Nat) : Bool :=
 match P.underlying t with
 | some (.struct _) | some (.array _ _) => true
 | _ => false
def psOf : List Nat → Option Ps
 | [] => some []
 | t :: ts => (flatC P 12 t).bind fun l => (psOf ts).map fun ps => (isAggC P t, l) :: ps
end
theorem foldr_list (l : List Ty) : (l.foldr Ty.cons Ty.nil).list = l := by
 induction l with
 | nil => rfl
 | cons a l ih => show a :: (l.foldr Ty.cons Ty.nil).list = _; rw [ih]
theorem foldr_len (l : List Ty) : (l.foldr Ty.cons Ty.nil).len = l.length := by rw [← Ty.list_len, foldr_list]
section
variable {H : Type} {enc : TypeId × Value → H} {P : Program} {w : World} {base : Nat} {spare : Nat → Bool} {held : Bool}
def Reads (w : World) (cs : List Value) (tys : List Ty) (avs : List AV) : Prop :=
 cs.length = tys.length ∧ avs.map AV.ty = tys ∧ (∀ (i : Nat) v a, cs[i]? = some v → avs[i]? = some a → Den (fun k => k < w.heap.size) w v a) ∧ ∀ a ∈ avs, AVok a
theorem Reads.nil : Reads w [] [] [] := ⟨rfl, rfl, fun i v a h => by simp at h, fun a h => by cases h⟩
theorem Reads.append {c1 c2 : List Value} {t1 t2 : List Ty} {a1 a2 : List AV} (h1 : Reads w c1 t1 a1) (h2 : Reads w c2 t2 a2) : Reads w (c1 ++ c2) (t1 ++ t2) (a1 ++ a2) := by
 obtain ⟨p1, p2, p3, p4⟩ := h1
 obtain ⟨q1, q2, q3, q4⟩ := h2
 have hl : a1.length = c1.length := by rw [p1, ← p2, List.length_map]
 refine ⟨by simp [p1, q1], by simp [p2, q2], fun i v a hv ha => ?_, fun a ha => ?_⟩
 ·by_cases hi : i < c1.length
  ·rw [List.getElem?_append_left hi] at hv
   rw [List.getElem?_append_left (by omega)] at ha
   exact p3 i v a hv ha
  ·rw [List.getElem?_append_right (by omega)] at hv ha
   rw [hl] at ha
   exact q3 _ v a hv ha
 ·rcases List.mem_append.1 ha with h | h
  ·exact p4 a h
  ·exact q4 a h
theorem Reads.one {v : Value} {a : AV} (h : Den (fun k => k < w.heap.size) w v a) (hok : AVok a) : Reads w [v] [a.ty] [a] := by
 refine ⟨rfl, rfl, fun i u x hu hx => ?_, fun x hx => by rw [List.mem_singleton] at hx; rw [hx]; exact hok⟩
 cases i with
 | zero => cases hu; cases hx; exact h
 | succ i => simp at hu
theorem rd_av : ∀ (d : Nat) (t : Nat) (tys : List Ty), flatC P d t = some tys → ∀ m cs x, DataW.trod enc P w base spare held m t cs = some x → ∃ avs, Reads w cs tys avs := by
 intro d
 induction d with
 | zero => intro t tys h; cases h
 | succ d ih =>
  intro t tys h m cs x hx
  unfold flatC at h
  split at h
  ·rename_i ht
   cases h
   obtain ⟨b, rfl, _⟩ := DataW.trod_bool ht hx
   exact ⟨[.bool b], Reads.one (.bool b) (.bool b)⟩
  ·rename_i ht
   cases h
   obtain ⟨n, rfl, h1, h2⟩ := rd_i64 ht m cs x hx
   exact ⟨[.int n], Reads.one (.int n) (.int n ⟨h1, h2⟩)⟩
  ·rename_i ht
   cases h
   obtain ⟨s, rfl, hs⟩ := rd_string ht m cs x hx
   exact ⟨[.raw (.string s)], Reads.one (.raw _ rfl) (.raw s hs)⟩
  ·rename_i e ht
   obtain ⟨l, hl, h⟩ := Option.bind_eq_some_iff.1 h
   split at h
   ·rename_i hc
    obtain ⟨hc, hpos⟩ := hc
    cases h
    have he := ih e l hl
    rcases DataW.trod_slice ht hx with ⟨rfl, _⟩ | ⟨a, len, cap, elems, rest, n, _, rfl, _, _, hle, hca, hlen, hel, _⟩
    ·exact ⟨[.sl _ []], Reads.one (Den.mk (l := []) rfl (Nat.zero_le _) (Nat.zero_le _) (fun i r h => by simp at h) (fun h => absurd rfl h)) (.sl _ [] (Nat.zero_le _) (fun r h => by cases h) (fun r h => by cases h))⟩
    ·rw [hc] at hel
     have one : ∀ i, i < len → ∃ avs : List AV, avs.map AV.ty = l ∧ (∀ a ∈ avs, AVok a) ∧ ∀ (k : Nat) y, avs[k]? = some y → ∃ u, w.cell? (a.add (i * l.length + k)) = some u ∧ Den (fun k => k < w.heap.size) w u y := by
      intro i hi
      have hxi := hel i hi
      rw [List.getElem?_eq_getElem (by omega)] at hxi
      obtain ⟨cl, hl1, hl2⟩ := Option.bind_eq_some_iff.1 hxi
      obtain ⟨avs, r1, r2, r3, r4⟩ := he _ _ _ hl2
      obtain ⟨c1, c2⟩ := cells_at hl1
      refine ⟨avs, r2, r4, fun k y hy => ?_⟩
      have hk : k < l.length := by
       have := (List.getElem?_eq_some_iff.1 hy).1
       rw [← r2, List.length_map]; exact this
      have hck : cl[k]? = some cl[k] := List.getElem?_eq_getElem (by omega)
      refine ⟨cl[k], ?_, r3 k _ y hck hy⟩
      have := c2 k hk
      rw [hck, add_add] at this
      exact this
     have all : ∀ k, k ≤ len → ∃ L : List (List AV), L.length = k ∧ (∀ (i : Nat) r, L[i]? = some r → r.map AV.ty = l) ∧ (∀ r ∈ L, ∀ a ∈ r, AVok a) ∧ ∀ (i : Nat) r, L[i]? = some r → ∀ (k : Nat) y, r[k]? = some y → ∃ u, w.cell? (a.add (i * l.length + k)) = some u ∧ Den (fun k => k < w.heap.size) w u y := by
      intro k
      induction k with
      | zero => intro _; exact ⟨[], rfl, (fun i r h => by simp at h), (fun r h => by cases h), (fun i r h => by simp at h)⟩
      | succ k ihk =>
       intro hk
       obtain ⟨L, g1, g2, g3, g4⟩ := ihk (by omega)
       obtain ⟨avs, o1, o2, o3⟩ := one k (by omega)
       have get : ∀ (i : Nat) r, (L ++ [avs])[i]? = some r → L[i]? = some r ∨ (i = k ∧ r = avs) := fun i r h => by
        by_cases hi : i < L.length
        ·rw [List.getElem?_append_left hi] at h; exact .inl h
        ·rw [List.getElem?_append_right (by omega)] at h
         have : i - L.length = 0 := by
          have := (List.getElem?_eq_some_iff.1 h).1
          simp only [List.length_cons, List.length_nil] at this; omega
         rw [this] at h
         cases h
         exact .inr ⟨by omega, rfl⟩
       refine ⟨L ++ [avs], by simp [g1], fun i r h => ?_, fun r h => ?_, fun i r h => ?_⟩
       ·rcases get i r h with h | ⟨_, rfl⟩
        ·exact g2 i r h
        ·exact o1
       ·rcases List.mem_append.1 h with h | h
        ·exact g3 r h
        ·rw [List.mem_singleton] at h; rw [h]; exact o2
       ·rcases get i r h with h | ⟨rfl, rfl⟩
        ·exact g4 i r h
        ·exact o3
     obtain ⟨L, g1, g2, g3, g4⟩ := all len (Nat.le_refl _)
     have hty : ∀ (i : Nat) r, L[i]? = some r → r.map AV.ty = (l.foldr Ty.cons Ty.nil).list := fun i r h => by rw [foldr_list]; exact g2 i r h
     refine ⟨[.sl (l.foldr Ty.cons Ty.nil) L], Reads.one (Den.mk g1 hle hca hty (fun hne => ⟨a, rfl, ?_, fun i r h k y hy => by rw [foldr_len]; exact g4 i r h k y hy⟩)) (.sl _ L (by omega) (fun r hr => ?_) g3)⟩
     ·obtain ⟨r, L', rfl⟩ := List.exists_cons_of_ne_nil hne
      have h0 := g2 0 r rfl
      obtain ⟨y, hy⟩ : ∃ y, r[0]? = some y := ⟨_, List.getElem?_eq_getElem (by rw [← List.length_map (f := AV.ty), h0]; exact hpos)⟩
      obtain ⟨u, hu, _⟩ := g4 0 r rfl 0 y hy
      have := World.block_lt_of_cell? w _ hu
      rwa [add_block] at this
     ·obtain ⟨i, hi, rfl⟩ := List.getElem_of_mem hr
      exact hty i _ (List.getElem?_eq_getElem hi)
   ·cases h
  ·rename_i fs ht
   obtain ⟨l, hl, h⟩ := Option.bind_eq_some_iff.1 h
   split at h
   ·rename_i hc
    cases h
    obtain ⟨xs, k, _, _, hlen, hn, hf⟩ := DataW.trod_struct ht hx
    have go : ∀ (q : List Field) (j off : Nat) (l : List Ty), flatF P (flatC P d) q off = some l → (∀ (i : Nat) f, q[i]? = some f → fs[j + i]? = some f) → off + l.length = cs.length → ∃ avs, Reads w (cs.drop off) l avs := by
     intro q
     induction q with
     | nil =>
      intro j off l h _ hlen
      cases h
      refine ⟨[], ?_⟩
      rw [List.drop_of_length_le (by simp at hlen; omega)]
      exact Reads.nil
     | cons f q ihq =>
      intro j off l h hfs hlen
      unfold flatF at h
      split at h
      ·rename_i ho
       obtain ⟨a, ha, h⟩ := Option.bind_eq_some_iff.1 h
       split at h
       ·rename_i hca
        obtain ⟨b, hb, rfl⟩ := Option.map_eq_some_iff.1 h
        have hfj := hfs 0 f rfl
        have hx1 := hf (j + 0) f hfj
        have hjl : j + 0 < xs.length := by rw [hn]; exact (Array.getElem?_eq_some_iff.1 hfj).1
        rw [List.getElem?_eq_getElem hjl, ho, hca] at hx1
        obtain ⟨av1, r1⟩ := ih f.type a ha _ _ _ hx1
        rw [List.length_append] at hlen
        obtain ⟨av2, r2⟩ := ihq (j + 1) (off + a.length) b hb (fun i g hg => by rw [show j + 1 + i = j + (i + 1) by omega]; exact hfs (i + 1) g hg) (by omega)
        refine ⟨av1 ++ av2, ?_⟩
        have := r1.append r2
        rw [← List.drop_drop, List.take_append_drop] at this
        exact this
       ·cases h
      ·cases h
    obtain ⟨avs, hr⟩ := go fs.toList 0 0 tys hl (fun i f h => by simpa using h) (by omega)
    exact ⟨avs, by simpa using hr⟩
   ·cases h
  ·rename_i n e ht
   obtain ⟨l, hl, h⟩ := Option.bind_eq_some_iff.1 h
   split at h
   ·rename_i hc
    cases h
    obtain ⟨xs, m', _, _, hlen, hn, hel⟩ := DataW.trod_array ht hx
    rw [hc.1] at hel
    have key : ∀ k, k ≤ n → ∃ avs, Reads w (cs.take (k * l.length)) (List.replicate k l).flatten avs := by
     intro k
     induction k with
     | zero => intro _; exact ⟨[], by simpa using Reads.nil⟩
     | succ k ihk =>
      intro hk
      obtain ⟨a1, r1⟩ := ihk (by omega)
      have hx1 := hel k (by omega)
      rw [List.getElem?_eq_getElem (by omega)] at hx1
      obtain ⟨a2, r2⟩ := ih e l hl _ _ _ hx1
      refine ⟨a1 ++ a2, ?_⟩
      have := r1.append r2
      rw [Nat.succ_mul, List.take_add, List.replicate_succ', List.flatten_concat]
      exact this
    obtain ⟨avs, hr⟩ := key n (Nat.le_refl _)
    exact ⟨avs, by rw [List.take_of_length_le (by omega)] at hr; exact hr⟩
   ·cases h
  ·cases h
theorem in_av {W : World} {b : Nat} {t : TypeId} {v : Value} {d : DataW H} {ps : List MemPlace} {l : List Ty} (hl : flatC P 12 t = some l) (hok : Value.okWide P W .any b t v) (h : DataW.Trod enc P W 0 (fun _ => true) true t v d ps) :
  ∃ x : AV, Den (fun k => k < W.heap.size) W v x ∧ (∀ y ∈ AV.cells x, AVok y) ∧ (Bool.rec (motive := fun _ => Bool) (x.oneB l) (x.aggB l) (isAggC P t)) = true := by
 obtain ⟨fuel, hf⟩ := h
 obtain ⟨avs, r1, r2, r3, r4⟩ := rd_av 12 t l hl _ _ _ hf
 have eqt : ∀ ts : List Ty, eqTs ts ts = true := by
  have eqb : ∀ t : Ty, t.eqb t = true := by
   intro t
   induction t with
   | sl r ih => exact ih
   | cons a b ih1 ih2 => show (Ty.eqb a a && Ty.eqb b b) = true; rw [ih1, ih2]; rfl
   | _ => rfl
  intro ts
  induction ts with
  | nil => rfl
  | cons t ts ih => show (Ty.eqb t t && eqTs ts ts) = true; rw [eqb, ih]; rfl
 have agg : isAggC P t = true → (∃ fs, P.underlying t = some (.struct fs)) ∨ ∃ n e, P.underlying t = some (.array n e) := fun h => by
  unfold isAggC at h
  split at h
  ·exact .inl ⟨_, ‹_›⟩
  ·exact .inr ⟨_, _, ‹_›⟩
  ·cases h
 cases ha : isAggC P t with
 | true =>
  have hv : ∃ cs, v = .agg cs := by
   rcases agg ha with ⟨fs, ht⟩ | ⟨n, e, ht⟩
   ·simp only [Value.okWide, ht] at hok
    obtain ⟨cs, h1, _⟩ := hok; exact ⟨cs, h1⟩
   ·simp only [Value.okWide, ht] at hok
    obtain ⟨cs, h1, _⟩ := hok; exact ⟨cs, h1⟩
  obtain ⟨cs, rfl⟩ := hv
  refine ⟨.agg avs, ?_, r4, ?_⟩
  ·have := Den.agg (S := fun k => k < W.heap.size) (w := W) cs.toList avs (by
    have : cs.toList.length = l.length := r1
    rw [this, ← r2, List.length_map]) (fun i v x h1 h2 => r3 i v x h1 h2)
   simpa using this
  ·show eqTs (avs.map AV.ty) l = true
   rw [r2]; exact eqt l
 | false =>
  have single : ∃ c : Value, plainCell v = true → v.cells = #[v] := ⟨v, cells_plain⟩
  have hp : plainCell v = true := by
   unfold flatC at hl
   split at hl
   ·rename_i ht; obtain ⟨b, rfl⟩ := okWide_bool ht hok; rfl
   ·rename_i ht; obtain ⟨n, rfl, _⟩ := in_i64 ht hok ⟨fuel, hf⟩; rfl
   ·rename_i ht; obtain ⟨s, rfl, _⟩ := in_string ht hok ⟨fuel, hf⟩; rfl
   ·rename_i e ht; obtain ⟨a, len, cap, rfl⟩ := okWide_slice ht hok; rfl
   ·rename_i fs ht; unfold isAggC at ha; rw [ht] at ha; cases ha
   ·rename_i n e ht; unfold isAggC at ha; rw [ht] at ha; cases ha
   ·cases hl
  have hcs : v.cells.toList = [v] := by rw [cells_plain hp]
  have r1 : v.cells.toList.length = l.length := r1
  rw [hcs] at r1
  have hav : avs.length = 1 := by rw [← List.length_map (f := AV.ty), r2, ← r1]; rfl
  match avs, hav with
  | [x], _ =>
   have hd := r3 0 v x (by show v.cells.toList[0]? = _; rw [hcs]; rfl) rfl
   have hok := r4 x (List.mem_cons_self ..)
   have hty : [x.ty] = l := r2
   subst hty
   refine ⟨x, hd, fun y hy => ?_, ?_⟩
   ·cases hok <;> (unfold AV.cells at hy; rw [List.mem_singleton] at hy; rw [hy]; exact r4 _ (List.mem_cons_self ..))
   ·show x.oneB [x.ty] = true
    cases hok with
    | int n h => exact eqt [.int]
    | bool b => exact eqt [.bool]
    | raw s h => exact eqt [.raw]
    | sl t l h _ _ => exact eqt [.sl t]
theorem in_avs {W : World} {b : Nat} : ∀ (ts : List TypeId) (qs : Ps) {vs : List Value} {ds : List (DataW H)} {ps : List MemPlace}, psOf P ts = some qs → DataW.TrodAll enc P W 0 (fun _ => true) true ts vs ds ps →
  (∀ (j : Nat) t v, ts[j]? = some t → vs[j]? = some v → Value.okWide P W .any b t v) →
  ∃ xs : List AV, vs.length = xs.length ∧ (∀ (i : Nat) v x, vs[i]? = some v → xs[i]? = some x → Den (fun k => k < W.heap.size) W v x) ∧ (∀ x ∈ xs, ∀ y ∈ AV.cells x, AVok y) ∧ chkA qs xs = true
 | [], qs, vs, ds, ps, hq, h, _ => by
  cases hq
  obtain ⟨rfl, rfl, rfl⟩ := trodAll_nil h
  exact ⟨[], rfl, (fun i v x h => by simp at h), (fun x h => by cases h), rfl⟩
 | t :: ts, qs, vs, ds, ps, hq, h, hv => by
  obtain ⟨v, vs1, d, ds1, a1, b1, rfl, rfl, rfl, h1, h2⟩ := trodAll_cons h
  unfold psOf at hq
  obtain ⟨l, hl, hq⟩ := Option.bind_eq_some_iff.1 hq
  obtain ⟨qs', hq', rfl⟩ := Option.map_eq_some_iff.1 hq
  obtain ⟨xs, e1, e2, e3, e4⟩ := in_avs ts qs' hq' h2 (fun j t v hj hv' => hv (j + 1) t v hj hv')
  obtain ⟨x, f1, f2, f3⟩ := in_av hl (hv 0 t v rfl rfl) h1
  refine ⟨x :: xs, by simp [e1], fun i u y hu hy => ?_, fun y hy => ?_, ?_⟩
  ·cases i with
   | zero => cases hu; cases hy; exact f1
   | succ i => exact e2 i u y hu hy
  ·rcases List.mem_cons.1 hy with rfl | hy
   ·exact f2
   ·exact e3 y hy
  ·show (and (Bool.rec (motive := fun _ => Bool) (x.oneB l) (x.aggB l) (isAggC P t)) (chkA qs' xs)) = true
   rw [f3, e4]; rfl
theorem trodAll_len {W : World} : ∀ (ts : List TypeId) {vs : List Value} {ds : List (DataW H)} {ps : List MemPlace}, DataW.TrodAll enc P W 0 (fun _ => true) true ts vs ds ps → ds.length = ts.length
 | [], _, _, _, h => by
  obtain ⟨_, rfl, _⟩ := trodAll_nil h
  rfl
 | t :: ts, _, _, _, h => by
  obtain ⟨v, vs1, d, ds1, a, b, _, rfl, _, _, h2⟩ := trodAll_cons h
  simp [trodAll_len ts h2]
def TupOk : (ts : List Ty) → tupT ts → Prop := fun ts s => ∀ x ∈ decT ts s, AVok x
theorem calls_true {f : Nat} {F : FnT} (hF : F.ok P f) {W : World} {b : Nat} {ts : List TypeId} {vs : List Value} {ds : List (DataW H)} {ps : List MemPlace} (hq : psOf P ts = some F.ps) (h : DataW.TrodAll enc P W 0 (fun _ => true) true ts vs ds ps)
  (hv : ∀ (j : Nat) t v, ts[j]? = some t → vs[j]? = some v → Value.okWide P W .any b t v)
  (hlaw : ∀ s : tupT (Ps.tys F.ps), TupOk (Ps.tys F.ps) s → ∃ n z, F.fn n s = some z ∧ rdec F.sh z = .b true) : Calls P f vs.toArray W fun e w' => e = .returned (.bool true) ∧ Below W.heap.size W w' := by
 obtain ⟨xs, e1, e2, e3, e4⟩ := in_avs ts F.ps hq h hv
 obtain ⟨c1, c2⟩ := chkA_ok F.ps xs e4
 have hcells : ∀ y ∈ cellsA xs, AVok y := fun y hy => by
  rw [cellsA_eq, List.mem_flatMap] at hy
  obtain ⟨x, hx, hy⟩ := hy
  exact e3 x hx y hy
 obtain ⟨n, z, h1, h2⟩ := hlaw (encT (Ps.tys F.ps) (cellsA xs)) (fun x hx => by rw [decT_ty c2] at hx; exact hcells x hx)
 have hc := hF n _ z h1
 rw [adec_enc e4, h2] at hc
 exact con_calls hc rfl ⟨by simpa using e1, fun i v x h1 h2 => e2 i v x (by simpa using h1) h2⟩
end
end Go.Sx
set_option maxRecDepth 100000
namespace Go.Proofs.YtgckmifmjiklmaaGreat
open Go Go.Sx Go.Dial.Blk Go.Dial.Mrg
def OneP (at_ : Int) (r : Int × Int × Int × Int × Int × Int × Int × Int) : Prop := (1 ≤ r.1 ∧ r.1 ≤ 4) ∧ at_ ≤ r.2.1 ∧ r.2.1 ≤ at_ + 4 ∧ -200 ≤ r.2.2.2.2.2.2.2 ∧ r.2.2.2.2.2.2.2 ≤ 200
theorem tm8 {x : Int} (h : 0 ≤ x) : 0 ≤ Int.tmod (x + 1) 8 ∧ Int.tmod (x + 1) 8 ≤ 7 := by
 have := tmod_bd (a := x + 1) (k := 8) (by omega) (by decide)
 omega
theorem one6 (n : Nat) {s t x5 x6 k d A B z : Int} (s0 : 0 ≤ s) (s1 : s ≤ 255) (h5 : In64 x5) (h6 : In64 x6) (k0 : 0 ≤ k) (k1 : k ≤ 3) (d0 : 0 ≤ d) (d1 : d ≤ 4) (z0 : 0 ≤ z) (z1 : z ≤ 7) (hn : 20 < n) :
  Ok (OneP t) (iterF (fun go0 q => ref42_One_6 n go0 s t x5 x6 k d A B q.1 q.2) n ((0, z) : ref42_One_s0)) := by
 have b6 := pk_bd x6 (k := 401) (by decide)
 refine iterF_ok (fun q => ∃ (i : Nat) (y : Int), q = ((i : Int), y) ∧ i ≤ 8 ∧ 0 ≤ y ∧ y ≤ 7) (fun q => 8 - q.1.toNat) _ ?_ n _ ⟨0, z, rfl, by omega, z0, z1⟩ (by first | omega | (simp only; omega))
 rintro _ go ⟨i, y, rfl, hi, y0, y1⟩ ih
 simp only at ih ⊢
 unfold ref42_One_6
 have hgo : i < 8 → Ok (OneP t) (go ((i : Int) + 1, Int.tmod (y + 1) 8)) := fun h => ih _ ⟨i + 1, _, rfl, by omega, (tm8 y0).1, (tm8 y0).2⟩ (by first | omega | (simp only; omega))
 rw [ref13_Piece_v n h5 h6, Option.bind_some, ref42_pick_v n h6 (by decide), Option.bind_some, shr_mod s0 s1 y0 y1]
 refine oF (fun h8 => oF (fun hz => hO (by omega) (by omega) (hO (by omega) (by omega) (hgo (by omega)))) (fun hz => hN y0 (oBN (fun _ => ?_) (fun _ => hO (by omega) (by omega) (hO (by omega) (by omega) (hgo (by omega))))))) (fun h8 => ?_)
 ·exact hO (by omega) (by omega) (hD ⟨⟨(by omega : 1 ≤ 1 + k), (by omega : 1 + k ≤ 4)⟩, (by omega : t ≤ t + d), (by omega : t + d ≤ t + 4), (by omega : -200 ≤ pk x6 401 - 200), (by omega : pk x6 401 - 200 ≤ 200)⟩)
 ·exact hO (by omega) (by omega) (hD ⟨⟨(by omega : 1 ≤ 1 + k), (by omega : 1 + k ≤ 4)⟩, (by omega : t ≤ t + d), (by omega : t + d ≤ t + 4), (by omega : -200 ≤ pk x6 401 - 200), (by omega : pk x6 401 - 200 ≤ 200)⟩)
theorem one9 (n : Nat) {s t x5 x6 k d A B z : Int} (s0 : 0 ≤ s) (s1 : s ≤ 255) (h5 : In64 x5) (h6 : In64 x6) (k0 : 0 ≤ k) (k1 : k ≤ 3) (d0 : 0 ≤ d) (d1 : d ≤ 4) (z0 : 0 ≤ z) (z1 : z ≤ 7) (hn : 20 < n) :
  Ok (OneP t) (iterF (fun go0 q => ref42_One_9 n go0 s t x5 x6 k d A B q.1 q.2) n ((0, z) : ref42_One_s0)) := by
 have b6 := pk_bd x6 (k := 401) (by decide)
 refine iterF_ok (fun q => ∃ (i : Nat) (y : Int), q = ((i : Int), y) ∧ i ≤ 8 ∧ 0 ≤ y ∧ y ≤ 7) (fun q => 8 - q.1.toNat) _ ?_ n _ ⟨0, z, rfl, by omega, z0, z1⟩ (by first | omega | (simp only; omega))
 rintro _ go ⟨i, y, rfl, hi, y0, y1⟩ ih
 simp only at ih ⊢
 unfold ref42_One_9
 have hgo : i < 8 → Ok (OneP t) (go ((i : Int) + 1, Int.tmod (y + 1) 8)) := fun h => ih _ ⟨i + 1, _, rfl, by omega, (tm8 y0).1, (tm8 y0).2⟩ (by first | omega | (simp only; omega))
 have hend : ∀ a b c d' e f : Int, -200 ≤ f → f ≤ 200 → OneP t (1 + k, t + d, a, b, c, d', e, f) := fun a b c d' e f f0 f1 => ⟨⟨(by omega : 1 ≤ 1 + k), (by omega : 1 + k ≤ 4)⟩, (by omega : t ≤ t + d), (by omega : t + d ≤ t + 4), f0, f1⟩
 rw [ref13_Piece_v n h5 h6, Option.bind_some, ref42_pick_v n h6 (by decide), Option.bind_some, shr_mod s0 s1 y0 y1]
 have hfin : Ok (OneP t) (bif (!(decide ((1 + k) = 3))) then (bif (decide ((1 + k) = 1)) then some ((1 + k), (t + d), A, B, 0, 0, 0, 0)
  else (bif (decide ((1 + k) = 4)) then some ((1 + k), (t + d), A, 0, 0, 0, 0, 0)
  else some ((1 + k), (t + d), A, B, 0, (pieceR x5 x6).1, (pieceR x5 x6).2, (pk x6 401 - 200))))
  else some ((1 + k), (t + d), A, B, y, (pieceR x5 x6).1, (pieceR x5 x6).2, (pk x6 401 - 200))) :=
  oN (fun _ => hD (hend _ _ _ _ _ _ (by omega) (by omega))) (fun _ => oF (fun _ => hD (hend _ _ _ _ _ _ (by omega) (by omega))) (fun _ => oF (fun _ => hD (hend _ _ _ _ _ _ (by omega) (by omega))) (fun _ => hD (hend _ _ _ _ _ _ (by omega) (by omega)))))
 refine oF (fun h8 => oF (fun hz => hO (by omega) (by omega) (hO (by omega) (by omega) (hgo (by omega)))) (fun hz => hN y0 (oBN (fun _ => ?_) (fun _ => hO (by omega) (by omega) (hO (by omega) (by omega) (hgo (by omega))))))) (fun h8 => ?_)
 ·exact hO (by omega) (by omega) hfin
 ·exact hO (by omega) (by omega) hfin
theorem one5 (n : Nat) {s e t x5 x6 k d A z0 z1 : Int} (s0 : 0 ≤ s) (s1 : s ≤ 255) (e0 : 0 ≤ e) (e1 : e ≤ 255) (h5 : In64 x5) (h6 : In64 x6) (k0 : 0 ≤ k) (k1 : k ≤ 3) (d0 : 0 ≤ d) (d1 : d ≤ 4) (y0 : 0 ≤ z0) (y1 : z0 ≤ 7) (y2 : 0 ≤ z1) (y3 : z1 ≤ 7) (hn : 20 < n) :
  Ok (OneP t) (iterF (fun go0 q => ref42_One_5 n go0 s e t x5 x6 k d A z1 q.1 q.2) n ((0, z0) : ref42_One_s0)) := by
 refine iterF_ok (fun q => ∃ (i : Nat) (y : Int), q = ((i : Int), y) ∧ i ≤ 8 ∧ 0 ≤ y ∧ y ≤ 7) (fun q => 8 - q.1.toNat) _ ?_ n _ ⟨0, z0, rfl, by omega, y0, y1⟩ (by first | omega | (simp only; omega))
 rintro _ go ⟨i, y, rfl, hi, y0, y1⟩ ih
 simp only at ih ⊢
 unfold ref42_One_5
 have hgo : i < 8 → Ok (OneP t) (go ((i : Int) + 1, Int.tmod (y + 1) 8)) := fun h => ih _ ⟨i + 1, _, rfl, by omega, (tm8 y0).1, (tm8 y0).2⟩ (by first | omega | (simp only; omega))
 refine oF (fun h8 => oF (fun hz => hO (by omega) (by omega) (hO (by omega) (by omega) (hgo (by omega)))) (fun hz => hN y0 (oBN (fun _ => one6 n s0 s1 h5 h6 k0 k1 d0 d1 y2 y3 hn) (fun _ => hO (by omega) (by omega) (hO (by omega) (by omega) (hgo (by omega))))))) (fun h8 => one6 n s0 s1 h5 h6 k0 k1 d0 d1 y2 y3 hn)
theorem one8 (n : Nat) {s t x5 x6 k d A z0 z1 : Int} (s0 : 0 ≤ s) (s1 : s ≤ 255) (h5 : In64 x5) (h6 : In64 x6) (k0 : 0 ≤ k) (k1 : k ≤ 3) (d0 : 0 ≤ d) (d1 : d ≤ 4) (y0 : 0 ≤ z0) (y1 : z0 ≤ 7) (y2 : 0 ≤ z1) (y3 : z1 ≤ 7) (hn : 20 < n) :
  Ok (OneP t) (iterF (fun go0 q => ref42_One_8 n go0 s t x5 x6 k d A z1 q.1 q.2) n ((0, z0) : ref42_One_s0)) := by
 refine iterF_ok (fun q => ∃ (i : Nat) (y : Int), q = ((i : Int), y) ∧ i ≤ 8 ∧ 0 ≤ y ∧ y ≤ 7) (fun q => 8 - q.1.toNat) _ ?_ n _ ⟨0, z0, rfl, by omega, y0, y1⟩ (by first | omega | (simp only; omega))
 rintro _ go ⟨i, y, rfl, hi, y0, y1⟩ ih
 simp only at ih ⊢
 unfold ref42_One_8
 have hgo : i < 8 → Ok (OneP t) (go ((i : Int) + 1, Int.tmod (y + 1) 8)) := fun h => ih _ ⟨i + 1, _, rfl, by omega, (tm8 y0).1, (tm8 y0).2⟩ (by first | omega | (simp only; omega))
 refine oF (fun h8 => oF (fun hz => hO (by omega) (by omega) (hO (by omega) (by omega) (hgo (by omega)))) (fun hz => hN y0 (oBN (fun _ => one9 n s0 s1 h5 h6 k0 k1 d0 d1 y2 y3 hn) (fun _ => hO (by omega) (by omega) (hO (by omega) (by omega) (hgo (by omega))))))) (fun h8 => one9 n s0 s1 h5 h6 k0 k1 d0 d1 y2 y3 hn)
theorem one4 (n : Nat) (go) {s e t x5 x6 k d A z0 z1 : Int} (s0 : 0 ≤ s) (s1 : s ≤ 255) (e0 : 0 ≤ e) (e1 : e ≤ 255) (h5 : In64 x5) (h6 : In64 x6) (k0 : 0 ≤ k) (k1 : k ≤ 3) (d0 : 0 ≤ d) (d1 : d ≤ 4) (y0 : 0 ≤ z0) (y1 : z0 ≤ 7) (y2 : 0 ≤ z1) (y3 : z1 ≤ 7) (hn : 20 < n) :
  Ok (OneP t) (ref42_One_4 n go s e t x5 x6 k d A z0 z1) := by
 unfold ref42_One_4
 exact oF (fun _ => one5 n s0 s1 e0 e1 h5 h6 k0 k1 d0 d1 y0 y1 y2 y3 hn) (fun _ => one8 n s0 s1 h5 h6 k0 k1 d0 d1 y0 y1 y2 y3 hn)
theorem ref42_One_v (n : Nat) {s e : Int} (bl ba le : Lv) (t x0 x1 x2 x3 x4 x5 x6 : Int) (s0 : 0 ≤ s) (s1 : s ≤ 255) (e0 : 0 ≤ e) (e1 : e ≤ 255) (t0 : 0 ≤ t) (t1 : t ≤ 1000000) (h0 : In64 x0) (h1 : In64 x1) (h2 : In64 x2) (h3 : In64 x3) (h4 : In64 x4) (h5 : In64 x5) (h6 : In64 x6) (hn : 20 < n) :
  Ok (OneP t) (ref42_One n s e bl ba le t x0 x1 x2 x3 x4 x5 x6) := by
 have b0 := pk_bd x0 (k := 4) (by decide)
 have b1 := pk_bd x1 (k := 5) (by decide)
 have b2 := pk_bd x2 (k := 8) (by decide)
 have b3 := pk_bd x3 (k := 8) (by decide)
 have b4 := pk_bd x4 (k := 8) (by decide)
 unfold ref42_One ref42_One_1
 rw [ref42_pick_v n h0 (by decide), Option.bind_some, ref42_pick_v n h1 (by decide), Option.bind_some, ref42_pick_v n h2 (by decide), Option.bind_some]
 refine hO (by omega) (by omega) (hO (by omega) (by omega) ?_)
 refine iterF_ok (fun q => ∃ (i : Nat) (y : Int), q = ((i : Int), y) ∧ i ≤ 8 ∧ 0 ≤ y ∧ y ≤ 7) (fun q => 8 - q.1.toNat) _ ?_ n _ ⟨0, _, rfl, by omega, b2.1, by omega⟩ (by first | omega | (simp only; omega))
 rintro _ go ⟨i, y, rfl, hi, y0, y1⟩ ih
 simp only at ih ⊢
 unfold ref42_One_2
 rw [ref42_pick_v n h3 (by decide), Option.bind_some, ref42_pick_v n h4 (by decide), Option.bind_some]
 refine oF (fun h8 => hN y0 ?_) (fun h8 => one4 n go s0 s1 e0 e1 h5 h6 b0.1 (by omega) b1.1 (by omega) b3.1 (by omega) b4.1 (by omega) hn)
 unfold ref42_One_3
 rw [ref42_pick_v n h3 (by decide), Option.bind_some, ref42_pick_v n h4 (by decide), Option.bind_some, shr_mod s0 s1 y0 y1]
 exact oBN (fun _ => one4 n go s0 s1 e0 e1 h5 h6 b0.1 (by omega) b1.1 (by omega) b3.1 (by omega) b4.1 (by omega) hn)
  (fun _ => hO (by omega) (by omega) (hO (by omega) (by omega) (ih _ ⟨i + 1, _, rfl, by omega, (tm8 y0).1, (tm8 y0).2⟩ (by first | omega | (simp only; omega)))))
theorem same_refl (n : Nat) (l : List B3) (hl : l.length ≤ 1000) (hn : l.length < n) : ref13_Same n (bL l) (bL l) = some true := by
 unfold ref13_Same ref13_Same_1
 refine cN (fun _ => ?_) (fun h => absurd rfl h)
 refine iterF_ind (fun s => ∃ i : Nat, s = (i : Int) ∧ i ≤ l.length) (fun s => l.length - s.toNat) _ ?_ n _ ⟨0, rfl, by omega⟩ (by simp; omega)
 rintro _ go ⟨i, rfl, hi⟩ ih
 unfold ref13_Same_2
 refine cF (fun h => gN (by omega) (gN h ?_)) (fun _ => rfl)
 rw [List.length_map] at h
 have hz : ∀ a : Int, decide (a = a) = true := fun a => decide_eq_true rfl
 rw [hz, hz, hz, Bool.and_true, Bool.and_true, Bool.not_true, cond_false]
 exact gO (by omega) (by omega) (ih _ ⟨i + 1, rfl, by omega⟩ (by first | omega | (simp only; omega)))
theorem ints_refl (n : Nat) (l : List Int) (hl : l.length ≤ 1000) (hn : l.length < n) : ref42_Ints n (iL l) (iL l) = some true := by
 unfold ref42_Ints ref42_Ints_1
 refine cN (fun _ => ?_) (fun h => absurd rfl h)
 refine iterF_ind (fun s => ∃ i : Nat, s = (i : Int) ∧ i ≤ l.length) (fun s => l.length - s.toNat) _ ?_ n _ ⟨0, rfl, by omega⟩ (by simp; omega)
 rintro _ go ⟨i, rfl, hi⟩ ih
 unfold ref42_Ints_2
 refine cF (fun h => gN (by omega) (gN h ?_)) (fun _ => rfl)
 rw [List.length_map] at h
 have hz : ∀ a : Int, decide (a = a) = true := fun a => decide_eq_true rfl
 rw [hz, Bool.not_true, cond_false]
 exact gO (by omega) (by omega) (ih _ ⟨i + 1, rfl, by omega⟩ (by first | omega | (simp only; omega)))
theorem world_refl (n : Nat) (w : Wd) (h1 : w.bl.length ≤ 1000) (h2 : w.ba.length ≤ 1000) (h3 : w.le.length ≤ 1000) (hn : 1000 < n) : ref42_Same n w.al w.ev (bL w.bl) (iL w.ba) (iL w.le) w.al w.ev (bL w.bl) (iL w.ba) (iL w.le) = some true := by
 unfold ref42_Same ref42_Same_1
 rw [same_refl n _ h1 (by omega), ints_refl n _ h2 (by omega), ints_refl n _ h3 (by omega)]
 simp only [decide_true, cond_true, Option.bind_some]
theorem law42_made_v (n : Nat) {v0 v1 v2 : Int} (h0 : In64 v0) (h1 : In64 v1) (h2 : In64 v2) (xs ys : List (Int × Int × Int)) (hx : ∀ x ∈ xs, In64 x.1 ∧ In64 x.2.1 ∧ In64 x.2.2) (hy : ∀ x ∈ ys, In64 x.1 ∧ In64 x.2.1 ∧ In64 x.2.2) (hn : 220 < n) :
  Ok (fun r => ∃ (w : Wd) (ds : List (Int × Int × Int)), r = (w.al, w.ev, bL w.bl, iL w.ba, iL w.le, ds.map triR) ∧ MadeW w ∧ w.ba = debtB ds ∧ ds.length ≤ 12 ∧ ∀ d ∈ ds, DebtOk w.al d) (law42_made n v0 v1 v2 (xs.map triR) (ys.map triR)) := by
 have b0 := pk_bd v0 (k := 255) (by decide)
 unfold law42_made law42_made_1
 rw [law42_pick_v n h0 (by decide), Option.bind_some]
 refine hO (by omega) (by omega) ?_
 obtain ⟨_, e1, ds, rfl, hl, hd⟩ := ref42_Owe_v n (s := 1 + pk v0 255) (by omega) (by omega) ys hy (by omega)
 rw [e1, Option.bind_some]
 obtain ⟨_, e2, w, rfl, hw, hb, ha⟩ := ref42_Made_v n h0 h1 h2 xs hx ds hl hd hn
 rw [e2, Option.bind_some]
 exact hD ⟨w, ds, rfl, hw, hb, hl, by rw [ha]; exact hd⟩
theorem list3 {α : Type} {l : List α} (h : l.length = 3) : ∃ a b c, l = [a, b, c] := by
 match l, h with
 | [a, b, c], _ => exact ⟨a, b, c, rfl⟩
theorem three {r : List AV} (h : r.map AV.ty = [.int, .int, .int]) (hok : ∀ x ∈ r, AVok x) : ∃ x : Int × Int × Int, r = triR x ∧ In64 x.1 ∧ In64 x.2.1 ∧ In64 x.2.2 := by
 obtain ⟨a, b, c, rfl⟩ := list3 (l := r) (by have := congrArg List.length h; simpa using this)
 simp only [List.map_cons, List.map_nil, List.cons.injEq, and_true] at h
 obtain ⟨a, rfl, h1⟩ := (hok a (by simp)).i h.1
 obtain ⟨b, rfl, h2⟩ := (hok b (by simp)).i h.2.1
 obtain ⟨c, rfl, h3⟩ := (hok c (by simp)).i h.2.2
 exact ⟨(a, b, c), rfl, h1, h2, h3⟩
theorem rows_of {α : Type} {f : α → List AV} {Q : α → Prop} : ∀ {l : Lv}, (∀ r ∈ l, ∃ x, r = f x ∧ Q x) → ∃ xs : List α, l = xs.map f ∧ ∀ x ∈ xs, Q x
 | [], _ => ⟨[], rfl, fun x h => by cases h⟩
 | r :: l, h => by
  obtain ⟨x, rfl, hx⟩ := h r (List.mem_cons_self ..)
  obtain ⟨xs, rfl, hxs⟩ := rows_of (l := l) fun r hr => h r (List.mem_cons_of_mem _ hr)
  exact ⟨x :: xs, rfl, fun y hy => by
   rcases List.mem_cons.1 hy with rfl | hy
   ·exact hx
   ·exact hxs y hy⟩
theorem tris_of {l : Lv} {t : Ty} (ht : t.list = [.int, .int, .int]) (h : AVok (.sl t l)) : ∃ xs : List (Int × Int × Int), l = xs.map triR ∧ ∀ x ∈ xs, In64 x.1 ∧ In64 x.2.1 ∧ In64 x.2.2 := by
 cases h with
 | sl _ _ _ hty hr => exact rows_of fun r hm => three (by rw [hty r hm, ht]) (hr r hm)
theorem int_of {n : Int} (h : AVok (.int n)) : In64 n := by
 cases h with
 | int _ h => exact h
set_option maxRecDepth 100000
abbrev evR (e : Ev) : List AV := [.int e.k, .int e.at_, .int e.a, .int e.b, .int e.c, .int e.f, .int e.t, .int e.m]
abbrev evL (l : List Ev) : Lv := l.map evR
theorem ecell {l : List Ev} {i : Nat} {e : Ev} (h : l[i]? = some e) : cI (evL l) (i : Int) 0 = e.k ∧ cI (evL l) (i : Int) 1 = e.at_ ∧ cI (evL l) (i : Int) 2 = e.a ∧ cI (evL l) (i : Int) 3 = e.b ∧ cI (evL l) (i : Int) 4 = e.c ∧ cI (evL l) (i : Int) 5 = e.f ∧ cI (evL l) (i : Int) 6 = e.t ∧ cI (evL l) (i : Int) 7 = e.m := by
 have hc : ∀ k, cA (evL l) (i : Int) k = (evR e).getD k (.int 0) := fun k => cA_map (by simpa using h)
 refine ⟨?_, ?_, ?_, ?_, ?_, ?_, ?_, ?_⟩ <;> (simp only [cI, hc]; rfl)
theorem elen (l : List Ev) : (evL l).length = l.length := by simp
theorem srt_iff : ∀ (l : List Ev), Srt l ↔ ∀ (k : Nat) a b, l[k]? = some a → l[k + 1]? = some b → a.at_ ≤ b.at_
 | [] => ⟨fun _ k a b h => by simp at h, fun _ => trivial⟩
 | [x] => ⟨fun _ k a b h h2 => by simp at h2, fun _ => trivial⟩
 | x :: y :: l => by
  show (x.at_ ≤ y.at_ ∧ Srt (y :: l)) ↔ _
  rw [srt_iff (y :: l)]
  constructor
  ·rintro ⟨h1, h2⟩ k a b ha hb
   cases k with
   | zero => simp at ha hb; rw [← ha, ← hb]; exact h1
   | succ k => exact h2 k a b (by simpa using ha) (by simpa using hb)
  ·intro h
   exact ⟨h 0 x y rfl rfl, fun k a b ha hb => h (k + 1) a b (by simpa using ha) (by simpa using hb)⟩
def outR : Option Wd × Nat → Int × Int × Lv × Lv × Lv × Int × Int
 | (some v, j) => (v.al, v.ev, bL v.bl, iL v.ba, iL v.le, (j : Int), 0)
 | (none, j) => (0, 0, ([] : Lv), ([] : Lv), ([] : Lv), (j : Int), 420)
theorem noR {w : Wd} {l : List Ev} (h : ¬ RunOk w l) : (some (0, 0, ([] : Lv), ([] : Lv), ([] : Lv), 0, 420) : Option (Int × Int × Lv × Lv × Lv × Int × Int)) = some (outR (runW w l)) := by
 unfold runW; rw [if_neg h]; rfl
theorem merge_Run_v (n : Nat) (w : Wd) (ha : In64 w.al) (l : List Ev) (hl : l.length ≤ 1000000) (hn : 100000001 < n) : merge_Run n w.al w.ev (bL w.bl) (iL w.ba) (iL w.le) (evL l) = some (outR (runW w l)) := by
 unfold merge_Run merge_Run_1
 rw [merge_Valid_v n w ha (by omega), Option.bind_some]
 refine cBN (fun hv => ?_) (fun h => noR fun p => by rw [vB_true p.v] at h; cases h)
 have hw := vB_iff.1 hv
 rw [elen]
 by_cases h20 : (20 : Int) < (l.length : Int)
 ·rw [decide_eq_true h20]; exact noR fun p => by have := p.few; omega
 rw [decide_eq_false h20, cond_false]
 refine gO (by omega) (by omega) ?_
 have fin : Srt l → (slices_Clone___api_Block_api_Block n (bL w.bl)).bind (fun y8 => (slices_Clone___int_int n (iL w.ba)).bind fun y9 => (slices_Clone___int_int n (iL w.le)).bind fun y10 =>
   (iterF (fun go0 s => merge_Run_3 n go0 (evL l) s.1 s.2.1 s.2.2.1 s.2.2.2.1 s.2.2.2.2.1 s.2.2.2.2.2) n ((0, w.al, w.ev, y8, y9, y10) : merge_Run_s0))) = some (outR (runW w l)) := fun hs => by
  rw [clone_b n _ hw.few, Option.bind_some, clone_i n _ hw.bal, Option.bind_some, clone_i n _ hw.lel, Option.bind_some]
  have hE : runW w l = runF w l 0 := by unfold runW; rw [if_pos ⟨hw, by omega, hs⟩]
  rw [hE]
  refine iterF_ind (fun s => ∃ (i : Nat) (u : Wd), s = ((i : Int), u.al, u.ev, bL u.bl, iL u.ba, iL u.le) ∧ i ≤ l.length ∧ WV u ∧ runF u (l.drop i) i = runF w l 0) (fun s => l.length - s.1.toNat) _ ?_ n _ ⟨0, w, rfl, by omega, hw, rfl⟩ (by first | omega | (simp only; omega))
  rintro _ go ⟨i, u, rfl, hi, hu, hE⟩ ih
  simp only at ih ⊢
  unfold merge_Run_3
  by_cases hlt : i < l.length
  ·obtain ⟨e, he⟩ := get_lt hlt
   obtain ⟨g0, g1, g2, g3, g4, g5, g6, g7⟩ := ecell he
   rw [elen]
   refine cF (fun _ => gN (by omega) ?_) (fun h => by omega)
   rw [g0, g1, g2, g3, g4, g5, g6, g7, merge_step_v n u hu e hn, Option.bind_some]
   rw [bdrop he, runF] at hE
   cases hs : stepW u e with
   | none =>
    rw [hs] at hE
    rw [← hE]
    exact cN (fun h => absurd h (by decide)) (fun _ => rfl)
   | some v =>
    rw [hs] at hE
    obtain ⟨hp, _⟩ := stepW_some hs
    have hv2 : WV v := by rw [(stepW_some hs).2]; exact hp.v2
    refine cN (fun _ => gO (by omega) (by omega) ?_) (fun h => absurd rfl h)
    exact ih _ ⟨i + 1, v, rfl, by omega, hv2, hE⟩ (by first | omega | (simp only; omega))
  ·have hi2 : i = l.length := by omega
   subst hi2
   rw [elen]
   refine cF (fun h => by omega) (fun _ => ?_)
   rw [List.drop_length, runF] at hE
   rw [← hE]; rfl
 refine iterF_ind (fun s => s < (l.length : Int) ∧ -1 ≤ s ∧ ∀ (k : Nat) a b, s ≤ (k : Int) → l[k]? = some a → l[k + 1]? = some b → a.at_ ≤ b.at_) (fun s => (s + 1).toNat) _ ?_ n _ ⟨by omega, by omega, fun k a b hk h1 h2 => by have := (List.getElem?_eq_some_iff.1 h2).1; omega⟩ (by first | omega | (simp only; omega))
 rintro s go ⟨h1, h2, hs⟩ ih
 unfold merge_Run_2
 refine cF (fun hp => ?_) (fun hp => ?_)
 ·obtain ⟨i, rfl⟩ : ∃ i : Nat, s = ((i + 1 : Nat) : Int) := ⟨(s - 1).toNat, by omega⟩
  obtain ⟨b, hb⟩ := get_lt (l := l) (i := i + 1) (by omega)
  obtain ⟨a, hA⟩ := get_lt (l := l) (i := i) (by omega)
  have gb := (ecell hb).2.1
  have ga := (ecell hA).2.1
  have e1 : ((i + 1 : Nat) : Int) - 1 = (i : Int) := by omega
  rw [elen, e1, gb, ga]
  refine gN (by omega) (gN (by omega) (gO (by omega) (by omega) (gN (by omega) (gN (by omega) (cF (fun hlt => noR fun p => ?_) (fun hge => ?_))))))
  ·have := (srt_iff l).1 p.srt i a b hA hb; omega
  ·have hgo : go ((i : Int)) = some (outR (runW w l)) := ih _ ⟨by omega, by omega, fun k x y hk hx hy => by
    by_cases hki : k = i
    ·subst hki; rw [hA] at hx; rw [hb] at hy; cases hx; cases hy; omega
    ·exact hs k x y (by omega) hx hy⟩ (by omega)
   rw [hgo]
   cases decide (a.at_ < b.at_) <;> rfl
 ·exact fin ((srt_iff l).2 fun k a b h3 h4 => hs k a b (by omega) h3 h4)
theorem merge_isPossible_v (n : Nat) (w : Wd) (ha : In64 w.al) (l : List Ev) (hl : l.length ≤ 1000000) (t : Int) (hn : 100000001 < n) : Ok (fun r => r = true ↔ Dial.Mrg.Good w l ∧ 0 ≤ t ∧ t ≤ 20000000) (merge_isPossible n w.al w.ev (bL w.bl) (iL w.ba) (iL w.le) (evL l) t) := by
 unfold merge_isPossible merge_isPossible_1
 rw [merge_Run_v n w ha l hl hn, Option.bind_some]
 cases hr : runW w l with
 | mk o j =>
  cases o with
  | none =>
   refine oF (fun h => absurd h (by show ¬ (420 : Int) = 0; decide)) (fun _ => hD ⟨(fun h => by cases h), fun h => ?_⟩)
   rw [runW_good h.1] at hr; cases hr
  | some v =>
   refine oF (fun _ => oF (fun h0 => hD ?_) (fun h0 => hD ⟨(fun h => by cases h), fun h => absurd h.2.1 h0⟩)) (fun h => absurd rfl h)
   rw [decide_eq_true_eq]
   exact ⟨fun h => ⟨runW_some hr, h0, h⟩, fun h => h.2.2⟩
structure SucOk (w : Wd) (l : List Ev) (c k t : Int) : Prop where
 g : Dial.Mrg.Good w l
 t0 : 0 ≤ t
 t1 : t ≤ 20000000
 c0 : 0 ≤ c
 c1 : c ≤ 7
 k0 : 0 ≤ k
 k1 : k ≤ 99999999
noncomputable instance (w : Wd) (l : List Ev) (c k t : Int) : Decidable (SucOk w l c k t) := Classical.propDecidable _
noncomputable def sucW (w : Wd) (l : List Ev) (c k t : Int) : Option Int := if SucOk w l c k t then some (sucL (untl l t) k c) else none
def clO (number : Int) (rest : Int × Int × Bool) : Option (Int × Int) → Int × Int × Int × Int × Int × Bool × Bool
 | some x => (number, x.1, x.2, rest.1, rest.2.1, rest.2.2, true)
 | none => (0, 0, 0, 0, 0, false, false)
noncomputable def clW (w : Wd) (l : List Ev) (k a b t : Int) : Option (Int × Int) :=
 match sucW w l a k t, sucW w l b k t with
 | some x, some y => if x = y then none else some (x, y)
 | _, _ => none
theorem noC {w : Wd} {l : List Ev} {k a b t : Int} {rest} (h : ¬ (SucOk w l a k t ∧ SucOk w l b k t)) : (some (0, 0, 0, 0, 0, false, false) : Option (Int × Int × Int × Int × Int × Bool × Bool)) = some (clO k rest (clW w l k a b t)) := by
 have : clW w l k a b t = none := by
  unfold clW sucW
  by_cases h1 : SucOk w l a k t
  ·rw [if_pos h1, if_neg (fun h2 => h ⟨h1, h2⟩)]
  ·rw [if_neg h1]
 rw [this]; rfl
set_option maxRecDepth 100000
abbrev Sev := Int × Int × Int × Int × Int × Int × Int
abbrev sevR (x : Sev) : List AV := [.int x.1, .int x.2.1, .int x.2.2.1, .int x.2.2.2.1, .int x.2.2.2.2.1, .int x.2.2.2.2.2.1, .int x.2.2.2.2.2.2]
def Sev64 (x : Sev) : Prop := In64 x.1 ∧ In64 x.2.1 ∧ In64 x.2.2.1 ∧ In64 x.2.2.2.1 ∧ In64 x.2.2.2.2.1 ∧ In64 x.2.2.2.2.2.1 ∧ In64 x.2.2.2.2.2.2
theorem list7 {α : Type} {l : List α} (h : l.length = 7) : ∃ a b c d e f g, l = [a, b, c, d, e, f, g] := by
 match l, h with
 | [a, b, c, d, e, f, g], _ => exact ⟨a, b, c, d, e, f, g, rfl⟩
theorem list8 {α : Type} {l : List α} (h : l.length = 8) : ∃ a b c d e f g i, l = [a, b, c, d, e, f, g, i] := by
 match l, h with
 | [a, b, c, d, e, f, g, i], _ => exact ⟨a, b, c, d, e, f, g, i, rfl⟩
theorem seven {r : List AV} (h : r.map AV.ty = [.int, .int, .int, .int, .int, .int, .int]) (hok : ∀ x ∈ r, AVok x) : ∃ x : Sev, r = sevR x ∧ Sev64 x := by
 obtain ⟨a, b, c, d, e, f, g, rfl⟩ := list7 (l := r) (by have := congrArg List.length h; simpa using this)
 simp only [List.map_cons, List.map_nil, List.cons.injEq, and_true] at h
 obtain ⟨k0, k1, k2, k3, k4, k5, k6⟩ := h
 obtain ⟨a, rfl, h1⟩ := (hok a (by simp)).i k0
 obtain ⟨b, rfl, h2⟩ := (hok b (by simp)).i k1
 obtain ⟨c, rfl, h3⟩ := (hok c (by simp)).i k2
 obtain ⟨d, rfl, h4⟩ := (hok d (by simp)).i k3
 obtain ⟨e, rfl, h5⟩ := (hok e (by simp)).i k4
 obtain ⟨f, rfl, h6⟩ := (hok f (by simp)).i k5
 obtain ⟨g, rfl, h7⟩ := (hok g (by simp)).i k6
 exact ⟨(a, b, c, d, e, f, g), rfl, h1, h2, h3, h4, h5, h6, h7⟩
theorem sevs_of {l : Lv} {t : Ty} (ht : t.list = [.int, .int, .int, .int, .int, .int, .int]) (h : AVok (.sl t l)) : ∃ xs : List Sev, l = xs.map sevR ∧ ∀ x ∈ xs, Sev64 x := by
 cases h with
 | sl _ _ _ hty hr => exact rows_of fun r hm => seven (by rw [hty r hm, ht]) (hr r hm)
theorem scell {xs : List Sev} {i : Nat} {x : Sev} (h : xs[i]? = some x) : cI (xs.map sevR) (i : Int) 0 = x.1 ∧ cI (xs.map sevR) (i : Int) 1 = x.2.1 ∧ cI (xs.map sevR) (i : Int) 2 = x.2.2.1 ∧ cI (xs.map sevR) (i : Int) 3 = x.2.2.2.1 ∧ cI (xs.map sevR) (i : Int) 4 = x.2.2.2.2.1 ∧ cI (xs.map sevR) (i : Int) 5 = x.2.2.2.2.2.1 ∧ cI (xs.map sevR) (i : Int) 6 = x.2.2.2.2.2.2 := by
 have hc : ∀ k, cA (xs.map sevR) (i : Int) k = (sevR x).getD k (.int 0) := fun k => cA_map (by simpa using h)
 refine ⟨?_, ?_, ?_, ?_, ?_, ?_, ?_⟩ <;> (simp only [cI, hc]; rfl)
def Ev64 (e : Ev) : Prop := In64 e.k ∧ In64 e.at_ ∧ In64 e.a ∧ In64 e.b ∧ In64 e.c ∧ In64 e.f ∧ In64 e.t ∧ In64 e.m
theorem eight {r : List AV} (h : r.map AV.ty = [.int, .int, .int, .int, .int, .int, .int, .int]) (hok : ∀ x ∈ r, AVok x) : ∃ e : Ev, r = evR e ∧ Ev64 e := by
 obtain ⟨a, b, c, d, e, f, g, i, rfl⟩ := list8 (l := r) (by have := congrArg List.length h; simpa using this)
 simp only [List.map_cons, List.map_nil, List.cons.injEq, and_true] at h
 obtain ⟨k0, k1, k2, k3, k4, k5, k6, k7⟩ := h
 obtain ⟨a, rfl, h1⟩ := (hok a (by simp)).i k0
 obtain ⟨b, rfl, h2⟩ := (hok b (by simp)).i k1
 obtain ⟨c, rfl, h3⟩ := (hok c (by simp)).i k2
 obtain ⟨d, rfl, h4⟩ := (hok d (by simp)).i k3
 obtain ⟨e, rfl, h5⟩ := (hok e (by simp)).i k4
 obtain ⟨f, rfl, h6⟩ := (hok f (by simp)).i k5
 obtain ⟨g, rfl, h7⟩ := (hok g (by simp)).i k6
 obtain ⟨i, rfl, h8⟩ := (hok i (by simp)).i k7
 exact ⟨⟨a, b, c, d, e, f, g, i⟩, rfl, h1, h2, h3, h4, h5, h6, h7, h8⟩
theorem evs_of {l : Lv} {t : Ty} (ht : t.list = [.int, .int, .int, .int, .int, .int, .int, .int]) (h : AVok (.sl t l)) : ∃ xs : List Ev, l = evL xs ∧ xs.length ≤ maxLen ∧ ∀ x ∈ xs, Ev64 x := by
 cases h with
 | sl _ _ hlen hty hr =>
  obtain ⟨xs, h1, h2⟩ := rows_of fun r hm => eight (by rw [hty r hm, ht]) (hr r hm)
  exact ⟨xs, h1, by rw [h1, List.length_map] at hlen; exact hlen, h2⟩
set_option maxRecDepth 100000
theorem ref42_Copy_v (n : Nat) (w : Wd) (h1 : w.bl.length ≤ 1000) (h2 : w.ba.length ≤ 1000) (h3 : w.le.length ≤ 1000) : ref42_Copy n w.al w.ev (bL w.bl) (iL w.ba) (iL w.le) = some (wT w) := by
 unfold ref42_Copy ref42_Copy_1
 rw [List.length_map, ilen, ilen]
 exact gN (by omega) (gN (by omega) (gN (by omega) rfl))
theorem ref42_Step_v (n : Nat) (w : Wd) (e : Ev) (hn : 300 < n) : ref42_Step n w.al w.ev (bL w.bl) (iL w.ba) (iL w.le) e.k e.at_ e.a e.b e.c e.f e.t e.m = some (outW (stepW w e)) := by
 unfold ref42_Step ref42_Step_1
 rw [ref42_Valid_v n w (by omega), Option.bind_some]
 unfold ref42_Step_2
 refine cBN (fun hv => ?_) (fun hv => noW fun p => by rw [vB_true p.v] at hv; cases hv)
 have hw := vB_iff.1 hv
 rw [ref42_formed_v n e, Option.bind_some]
 unfold ref42_Step_3
 refine cN (fun hf => gN hf.a0 ?_) (fun hf => noW fun p => hf p.f)
 have A0 := hw.a0
 have A1 := hw.a1
 have il1 : ((iL w.ba).length : Int) = 8 := by rw [ilen, hw.bal]; rfl
 have il2 : ((iL w.le).length : Int) = 8 := by rw [ilen, hw.lel]; rfl
 obtain ⟨k, at_, a, b, c, f, t, m⟩ := e
 have t0 := hf.t0
 have t1 := hf.t1
 have a0 := hf.a0
 have a1 := hf.a1
 have b0 := hf.b0
 have b1 := hf.b1
 have c0 := hf.c0
 have c1 := hf.c1
 have hfew := hw.few
 dsimp only at t0 t1 a0 a1 b0 b1 c0 c1 ⊢
 unfold ref42_Step_4
 rw [shr_mod A0 A1 a0 a1]
 refine cBN (fun ha => ?_) (fun h => noW fun p => by have := p.c.a; rw [h] at this; cases this)
 rw [ref42_Copy_v n w (by omega) (by rw [hw.bal]; decide) (by rw [hw.lel]; decide), Option.bind_some]
 dsimp only
 have q1 := hw.b0 a a0 a1
 have q2 := hw.b0 b b0 b1
 have q3 := hw.b0 c c0 c1
 unfold ref42_Step_5
 refine cF (fun hk => gN b0 ?_) (fun hk1 => ?_)
 ·subst hk
  obtain ⟨f0, t0', m0⟩ := hf.bare (.inl rfl)
  have hc0 := hf.noC (show ¬ (1 : Int) = 3 by decide)
  dsimp only at f0 t0' m0 hc0
  subst f0; subst t0'; subst m0; subst hc0
  have hab : a ≠ b := hf.other (show ¬ (1 : Int) = 4 by decide)
  have hf2 : Frm ⟨2, at_, a, b, 0, 0, 100000000, 0⟩ := ⟨t0, t1, a0, a1, b0, b1, (show (0 : Int) ≤ 0 by decide), (show (0 : Int) ≤ 7 by decide), (show 1 ≤ (2 : Int) ∧ (2 : Int) ≤ 4 by decide), fun h => by simp at h, fun _ => ⟨(show (0 : Int) ≤ 0 by decide), (show (0 : Int) < 100000000 by decide), (show (100000000 : Int) ≤ 100000000 by decide), (show -1000000000000 ≤ (0 : Int) by decide), (show (0 : Int) ≤ 1000000000000 by decide)⟩, fun _ => rfl, fun h => by simp at h, fun _ => hab, fun h => by simp at h⟩
  have hh := ref42_hand_v n w.bl hw.can hw.few hf2 rfl (by omega)
  dsimp only at hh
  have hMr : mapOf (fun m => rho ⟨2, at_, a, b, 0, 0, 100000000, 0⟩ m (hold w.bl m)) = mapOf fun m => rho ⟨1, at_, a, b, 0, 0, 0, 0⟩ m (hold w.bl m) := by
   refine mapOf_eq ((rho_map hf hw.can).congr fun x x0 x1 => ?_)
   unfold rho
   simp [x0, x1]
  have hM := rho_map hf hw.can
  have hsw : (fun m => rho ⟨1, at_, a, b, 0, 0, 0, 0⟩ m (hold w.bl m)) = fun m => swR a b (hold w.bl m) := by
   funext m
   unfold rho swR
   simp
  have hlen : (mapOf fun m => rho ⟨1, at_, a, b, 0, 0, 0, 0⟩ m (hold w.bl m)).length ≤ w.bl.length := by
   rw [hsw]
   exact relabel_len hw.can (swR a b) (by unfold swR; rw [if_neg (by omega)]) (swap_map hw.can (f := a) b0 b1)
  unfold combR at hh
  rw [hMr, if_pos (by omega)] at hh
  dsimp only at hh
  rw [hh, Option.bind_some, shr_mod A0 A1 b0 b1, gcell hw.bal b0 b1, gcell hw.bal a0 a1]
  refine gN (by omega) (gN (by omega) (gO (by omega) (by omega) (gN (by omega) (gN (by omega) ?_))))
  refine cBN (fun hb => ?_) (fun h => noW fun p => by have := p.c.m rfl; rw [h] at this; cases this)
  dsimp only
  refine cN (fun _ => ?_) (fun h => absurd rfl h)
  have e1 : (aft w ⟨1, at_, a, b, 0, 0, 0, 0⟩).al = IOp.f .andNot w.al (IOp.f .shl 1 a) := by rw [andnot_shl A0 A1 a0 a1]; rfl
  have e2 : (aft w ⟨1, at_, a, b, 0, 0, 0, 0⟩).ev = w.ev := rfl
  have e3 : bL (aft w ⟨1, at_, a, b, 0, 0, 0, 0⟩).bl = bL (mapOf fun m => rho ⟨1, at_, a, b, 0, 0, 0, 0⟩ m (hold w.bl m)) := rfl
  have e4 : iL (aft w ⟨1, at_, a, b, 0, 0, 0, 0⟩).ba = List.modify (List.modify (iL w.ba) b.toNat (fun r => r.set 0 (AV.int (g w.ba b + g w.ba a)))) a.toNat (fun r => r.set 0 (AV.int 0)) := by rw [imod, imod]; rfl
  have e5 : iL (aft w ⟨1, at_, a, b, 0, 0, 0, 0⟩).le = List.modify (iL w.le) a.toNat (fun r => r.set 0 (AV.int 0)) := by rw [imod]; rfl
  have hV := ref42_Valid_v n (aft w ⟨1, at_, a, b, 0, 0, 0, 0⟩) (by omega)
  rw [e1, e2, e3, e4, e5] at hV
  rw [hV, Option.bind_some]
  refine cBN (fun h => ?_) (fun h => noW fun p => by rw [vB_true p.v2] at h; cases h)
  exact yesW ⟨hw, hf, ⟨ha, fun _ => hb, fun h => by simp at h, fun h => by simp at h, fun h => by simp at h⟩, vB_iff.1 h⟩ e1 e2 e3 e4 e5
 unfold ref42_Step_6
 refine cF (fun hk => gN b0 ?_) (fun hk2 => ?_)
 ·subst hk
  have hc0 := hf.noC (show ¬ (2 : Int) = 3 by decide)
  dsimp only at hc0
  subst hc0
  have hab : a ≠ b := hf.other (show ¬ (2 : Int) = 4 by decide)
  obtain ⟨f0, f1, f2, m0, m1⟩ := hf.full (.inl rfl)
  dsimp only at f0 f1 f2 m0 m1
  have hh := ref42_hand_v n w.bl hw.can hw.few hf rfl (by omega)
  dsimp only at hh
  rw [hh, Option.bind_some, shr_mod hw.e0 hw.e1 b0 b1, gcell hw.bal a0 a1, gcell hw.lel a0 a1]
  refine gN (by omega) (gN (by omega) (gO (by omega) (by omega) (gN (by omega) (gN (by omega) (gN (by omega) ?_)))))
  rw [beq_true]
  refine cB (fun h => noW fun p => by have := p.c.s rfl; rw [h] at this; cases this) (fun hb => ?_)
  unfold combR
  by_cases h40 : (mapOf fun n => rho ⟨2, at_, a, b, 0, f, t, m⟩ n (hold w.bl n)).length ≤ 40
  case neg =>
   rw [if_neg h40]
   dsimp only
   exact cN (fun h => absurd h (show ¬ (130 : Int) = 0 by decide)) (fun _ => noW fun p => h40 p.v2.few)
  rw [if_pos h40]
  dsimp only
  refine cN (fun _ => ?_) (fun h => absurd rfl h)
  have e1 : (aft w ⟨2, at_, a, b, 0, f, t, m⟩).al = IOp.f .or w.al (IOp.f .shl 1 b) := by rw [or_shl A0 A1 b0 b1]; rfl
  have e2 : (aft w ⟨2, at_, a, b, 0, f, t, m⟩).ev = IOp.f .or w.ev (IOp.f .shl 1 b) := by rw [or_shl hw.e0 hw.e1 b0 b1]; rfl
  have e3 : bL (aft w ⟨2, at_, a, b, 0, f, t, m⟩).bl = bL (mapOf fun n => rho ⟨2, at_, a, b, 0, f, t, m⟩ n (hold w.bl n)) := rfl
  have e4 : iL (aft w ⟨2, at_, a, b, 0, f, t, m⟩).ba = List.modify (List.modify (iL w.ba) b.toNat (fun r => r.set 0 (AV.int m))) a.toNat (fun r => r.set 0 (AV.int (g w.ba a - m))) := by
   rw [imod, imod]
   have : (w.ba.set b.toNat m).set a.toNat (g w.ba a - m) = (w.ba.set a.toNat (g w.ba a - m)).set b.toNat m := List.set_comm _ _ (by omega)
   rw [this]; rfl
  have e5 : iL (aft w ⟨2, at_, a, b, 0, f, t, m⟩).le = List.modify (iL w.le) b.toNat (fun r => r.set 0 (AV.int (g w.le a))) := by rw [imod]; rfl
  have hV := ref42_Valid_v n (aft w ⟨2, at_, a, b, 0, f, t, m⟩) (by omega)
  rw [e1, e2, e3, e4, e5] at hV
  rw [hV, Option.bind_some]
  refine cBN (fun h => ?_) (fun h => noW fun p => by rw [vB_true p.v2] at h; cases h)
  exact yesW ⟨hw, hf, ⟨ha, fun h => by simp at h, fun _ => hb, fun h => by simp at h, fun h => by simp at h⟩, vB_iff.1 h⟩ e1 e2 e3 e4 e5
 unfold ref42_Step_7
 refine cF (fun hk => gN b0 ?_) (fun hk3 => ?_)
 ·subst hk
  have hab : a ≠ b := hf.other (show ¬ (3 : Int) = 4 by decide)
  have hac : a ≠ c := hf.third rfl
  obtain ⟨f0, f1, f2, m0, m1⟩ := hf.full (.inr rfl)
  dsimp only at f0 f1 f2 m0 m1
  have hout := ref42_outside_v n w.bl hw.can hw.few (x := a) (y := b) (z := c) (f := f) (t := t) f1 a0 b0 c0 (by omega)
  have hMo := out_map (x := a) (y := b) (z := c) f1 b0 b1 c0 c1 a0 hw.can
  have hG : (fun n => outG a b c f t n (hold w.bl n)) = fun n => rho ⟨3, at_, a, b, c, f, t, m⟩ n (hold w.bl n) := by
   funext x
   unfold outG rho
   by_cases hx : hold w.bl x = a
   ·by_cases hr : f ≤ x ∧ x < t
    ·simp [hx, hr]
    ·simp [hx, hr]
   ·simp [hx]
  rw [hG] at hMo
  have hbl : w.bl.foldl (outB a b c f t) [] = mapOf fun n => rho ⟨3, at_, a, b, c, f, t, m⟩ n (hold w.bl n) := (mapOf_eq hMo).symm
  rw [hbl] at hout
  have hMr := rho_map hf hw.can
  have hval : ∀ L : List B3, Canon L → vldB L = decide (L.length ≤ 40) := fun L hL => by
   have : ascB 0 (-1) L = true := (ascB_iff L 0 (-1)).2 hL
   rw [vldB, this, Bool.and_true]
  have hl8 : (w.ba.set b.toNat (g w.ba b + m)).length = 8 := by rw [List.length_set, hw.bal]
  have q4 : g (w.ba.set b.toNat (g w.ba b + m)) c = if c = b then g w.ba b + m else g w.ba c := g_set hw.bal b0 b1 c0 c1
  have q5 : -3000000000000 ≤ g (w.ba.set b.toNat (g w.ba b + m)) c ∧ g (w.ba.set b.toNat (g w.ba b + m)) c ≤ 3000000000000 := by rw [q4]; split <;> omega
  rw [hout, shr_mod A0 A1 b0 b1]
  refine cB (fun hb => gN c0 ?_) (fun hb => ?_)
  ·rw [Option.bind_some, ref13_Valid_v n _ (by omega), Option.bind_some, hval _ hMr.1, shr_mod A0 A1 c0 c1, gcell hw.bal b0 b1, imod, gcell hl8 c0 c1, gcell hw.bal a0 a1]
   refine gN (by omega) (gO (by omega) (by omega) (gN (by omega) (gN (by omega) (gO (by omega) (by omega) (gO (by omega) (by omega) (gN (by omega) (gN (by omega) ?_)))))))
   refine cBN (fun hc => cN (fun h40 => ?_) (fun h => noW fun p => h p.v2.few)) (fun h => noW fun p => by have := (p.c.w3 rfl).2; rw [h] at this; cases this)
   have e1 : (aft w ⟨3, at_, a, b, c, f, t, m⟩).al = IOp.f .andNot w.al (IOp.f .shl 1 a) := by rw [andnot_shl A0 A1 a0 a1]; rfl
   have e2 : (aft w ⟨3, at_, a, b, c, f, t, m⟩).ev = w.ev := rfl
   have e3 : bL (aft w ⟨3, at_, a, b, c, f, t, m⟩).bl = bL (mapOf fun n => rho ⟨3, at_, a, b, c, f, t, m⟩ n (hold w.bl n)) := rfl
   have e4 : iL (aft w ⟨3, at_, a, b, c, f, t, m⟩).ba = List.modify (List.modify (iL (w.ba.set b.toNat (g w.ba b + m))) c.toNat (fun r => r.set 0 (AV.int ((g (w.ba.set b.toNat (g w.ba b + m)) c + g w.ba a) - m)))) a.toNat (fun r => r.set 0 (AV.int 0)) := by
    rw [imod, imod]
    show iL (((w.ba.set b.toNat (g w.ba b + m)).set c.toNat (g (w.ba.set b.toNat (g w.ba b + m)) c + (g w.ba a - m))).set a.toNat 0) = _
    rw [Int.add_sub_assoc]
   have e5 : iL (aft w ⟨3, at_, a, b, c, f, t, m⟩).le = List.modify (iL w.le) a.toNat (fun r => r.set 0 (AV.int 0)) := by rw [imod]; rfl
   have hV := ref42_Valid_v n (aft w ⟨3, at_, a, b, c, f, t, m⟩) (by omega)
   rw [e1, e2, e3, e4, e5] at hV
   rw [hV, Option.bind_some]
   refine cBN (fun h => ?_) (fun h => noW fun p => by rw [vB_true p.v2] at h; cases h)
   exact yesW ⟨hw, hf, ⟨ha, fun h => by simp at h, fun h => by simp at h, fun _ => ⟨hb, hc⟩, fun h => by simp at h⟩, vB_iff.1 h⟩ e1 e2 e3 e4 e5
  ·rw [Option.bind_some, ref13_Valid_v n _ (by omega), Option.bind_some, gcell hw.bal b0 b1, imod, gcell hl8 c0 c1, gcell hw.bal a0 a1]
   refine gN (by omega) (gO (by omega) (by omega) (gN (by omega) (gN (by omega) (gN (by omega) (gO (by omega) (by omega) (gO (by omega) (by omega) (gN (by omega) (gN (by omega) ?_))))))))
   exact noW fun p => by have := (p.c.w3 rfl).1; rw [hb] at this; cases this
 have hk4 : k = 4 := by have h5 : 1 ≤ k ∧ k ≤ 4 := hf.kind; omega
 subst hk4
 obtain ⟨f0, t0', m0⟩ := hf.bare (.inr rfl)
 have hc0 := hf.noC (show ¬ (4 : Int) = 3 by decide)
 have hb0 := hf.noB rfl
 dsimp only at f0 t0' m0 hc0 hb0
 subst f0; subst t0'; subst m0; subst hc0; subst hb0
 refine iterF_ind (fun s => ∃ (i : Nat) (one : Bool), s = (one, (i : Int)) ∧ i ≤ 8 ∧ (one = true ↔ ∀ c, 0 ≤ c → c < (i : Int) → has w.al c = true → g w.le a ≤ g w.le c)) (fun s => 8 - s.2.toNat) _ ?_ n _ ⟨0, true, rfl, by omega, fun _ c h0 h1 => by omega, fun _ => rfl⟩ (by first | omega | (simp only; omega))
 rintro _ go ⟨i, one, rfl, hi, hall⟩ ih
 simp only at ih ⊢
 unfold ref42_Step_8
 have esucc : ((i + 1 : Nat) : Int) = (i : Int) + 1 := by omega
 refine cF (fun h8 => ?_) (fun h8 => ?_)
 ·have i0 : (0 : Int) ≤ (i : Int) := by omega
  have i7 : (i : Int) ≤ 7 := by omega
  have hgo : ∀ x : Bool, (x = true ↔ ((∀ c, 0 ≤ c → c < (i : Int) → has w.al c = true → g w.le a ≤ g w.le c) ∧ (has w.al (i : Int) = true → g w.le a ≤ g w.le (i : Int)))) → go (x, (i : Int) + 1) = some (outW (stepW w ⟨4, at_, a, 0, 0, 0, 0, 0⟩)) := fun x hx => by
   refine ih _ ⟨i + 1, x, by rw [esucc], by omega, ?_⟩ (by first | omega | (simp only; omega))
   rw [hx]
   constructor
   ·rintro ⟨h1, h2⟩ c p0 p1 p2
    by_cases hc : c < (i : Int)
    ·exact h1 c p0 hc p2
    ·have : c = (i : Int) := by omega
     subst this; exact h2 p2
   ·intro h
    exact ⟨fun c p0 p1 p2 => h c p0 (by omega) p2, fun p => h _ i0 (by omega) p⟩
  rw [shr_mod A0 A1 i0 i7, gcell hw.lel a0 a1, gcell hw.lel i0 i7]
  refine cB (fun h1 => gN i0 (cBN (fun hh => gN (by omega) (gN (by omega) (gO (by omega) (by omega) (hgo _ ?_)))) (fun hh => gO (by omega) (by omega) (hgo _ ?_)))) (fun h1 => gO (by omega) (by omega) (hgo _ ?_))
  ·rw [decide_eq_true_eq]
   exact ⟨fun h => ⟨hall.1 h1, fun _ => h⟩, fun h => h.2 hh⟩
  ·exact ⟨fun _ => ⟨hall.1 h1, fun h => by rw [hh] at h; cases h⟩, fun _ => rfl⟩
  ·exact ⟨(fun h => by cases h), fun h => by have := hall.2 h.1; rw [h1] at this; cases this⟩
 ·have hi8 : i = 8 := by omega
  subst hi8
  have hl := hw.l0 a a0 a1
  rw [gcell hw.lel a0 a1]
  refine gN (by omega) (gO (by omega) (by omega) (cBN (fun h1 => ?_) (fun h1 => noW fun p => ?_)))
  ·have e1 : (aft w ⟨4, at_, a, 0, 0, 0, 0, 0⟩).al = w.al := rfl
   have e2 : (aft w ⟨4, at_, a, 0, 0, 0, 0, 0⟩).ev = w.ev := rfl
   have e3 : bL (aft w ⟨4, at_, a, 0, 0, 0, 0, 0⟩).bl = bL w.bl := by
    have : (fun n => rho ⟨4, at_, a, 0, 0, 0, 0, 0⟩ n (hold w.bl n)) = hold w.bl := by
     funext m
     unfold rho
     simp
    show bL (mapOf fun n => rho ⟨4, at_, a, 0, 0, 0, 0, 0⟩ n (hold w.bl n)) = _
    rw [this, mapOf_hold hw.can]
   have e4 : iL (aft w ⟨4, at_, a, 0, 0, 0, 0, 0⟩).ba = iL w.ba := rfl
   have e5 : iL (aft w ⟨4, at_, a, 0, 0, 0, 0, 0⟩).le = List.modify (iL w.le) a.toNat (fun r => r.set 0 (AV.int (g w.le a + 1))) := by rw [imod]; rfl
   have hV := ref42_Valid_v n (aft w ⟨4, at_, a, 0, 0, 0, 0, 0⟩) (by omega)
   rw [e1, e2, e3, e4, e5] at hV
   rw [hV, Option.bind_some]
   refine cBN (fun h => ?_) (fun h => noW fun p => by rw [vB_true p.v2] at h; cases h)
   exact yesW ⟨hw, hf, ⟨ha, fun h => by simp at h, fun h => by simp at h, fun h => by simp at h, fun _ c p0 p1 hc => hall.1 h1 c p0 (by omega) hc⟩, vB_iff.1 h⟩ e1 e2 e3 e4 e5
  ·have := hall.2 fun c p0 p1 p2 => p.c.u rfl c p0 (by omega) p2
   rw [h1] at this; cases this
structure EvsOk (w : Wd) (l : List Ev) : Prop where
 g : Dial.Mrg.Good w l
 few : l.length ≤ 8
 late : ∀ e ∈ l, e.at_ ≤ 32
 m : ∀ e ∈ l, -200 ≤ e.m ∧ e.m ≤ 200
theorem ref42_Events_v (n : Nat) (w : Wd) (hw : WV w) (xs : List Sev) (hx : ∀ x ∈ xs, Sev64 x) (hn : 300 < n) : Ok (fun r => ∃ l, r = evL l ∧ EvsOk w l) (ref42_Events n w.al w.ev (bL w.bl) (iL w.ba) (iL w.le) (xs.map sevR)) := by
 unfold ref42_Events ref42_Events_1
 refine iterF_ok (fun s => ∃ (i : Nat) (l : List Ev) (t : Int), s = (evL l, t, (i : Int), wT (aftL w l)) ∧ i ≤ 8 ∧ l.length ≤ i ∧ EvsOk w l ∧ 0 ≤ t ∧ t ≤ 4 * (i : Int) ∧ ∀ e ∈ l, e.at_ ≤ t) (fun s => 8 - s.2.2.1.toNat) _ ?_ n _ ⟨0, [], 0, rfl, by omega, by simp, ⟨⟨by simp, trivial, hw⟩, by simp, fun e h => by simp at h, fun e h => by simp at h⟩, by omega, by omega, fun e h => by simp at h⟩ (by first | omega | (simp only; omega))
 rintro _ go ⟨i, l, t, rfl, hi, hl, hE, h0, h1, hlt⟩ ih
 simp only at ih ⊢
 unfold ref42_Events_2
 rw [List.length_map]
 have hu := hE.g.p.v2
 refine oF (fun hxl => oF (fun h8 => hN (by omega) ?_) (fun _ => hD ⟨l, rfl, hE⟩)) (fun _ => hD ⟨l, rfl, hE⟩)
 obtain ⟨x, hxx⟩ := get_lt (l := xs) (i := i) (by omega)
 obtain ⟨g0, g1, g2, g3, g4, g5, g6⟩ := scell hxx
 obtain ⟨s0, s1, s2, s3, s4, s5, s6⟩ := hx x (List.mem_of_getElem? hxx)
 rw [g0, g1, g2, g3, g4, g5, g6]
 obtain ⟨d, e2, hd⟩ := ref42_One_v n (bL (aftL w l).bl) (iL (aftL w l).ba) (iL (aftL w l).le) t x.1 x.2.1 x.2.2.1 x.2.2.2.1 x.2.2.2.2.1 x.2.2.2.2.2.1 x.2.2.2.2.2.2 hu.a0 hu.a1 hu.e0 hu.e1 h0 (by omega) s0 s1 s2 s3 s4 s5 s6 (by omega)
 obtain ⟨k, at_, a, b, c, f, u, m⟩ := d
 obtain ⟨hd1, hd2, hd3, hd4, hd5⟩ := hd
 dsimp only at hd1 hd2 hd3 hd4 hd5
 have hS := ref42_Step_v n (aftL w l) ⟨k, at_, a, b, c, f, u, m⟩ hn
 dsimp only at hS
 rw [e2, Option.bind_some]
 dsimp only
 rw [hS, Option.bind_some]
 cases hs : stepW (aftL w l) ⟨k, at_, a, b, c, f, u, m⟩ with
 | none =>
  refine oF (fun h => absurd h (by show ¬ (420 : Int) = 0; decide)) (fun _ => hO (by omega) (by omega) ?_)
  exact ih _ ⟨i + 1, l, t, rfl, by omega, by omega, hE, h0, by omega, hlt⟩ (by first | omega | (simp only; omega))
 | some v =>
  obtain ⟨hp, rfl⟩ := stepW_some hs
  refine oF (fun _ => hN (by rw [elen]; omega) (hO (by omega) (by omega) ?_)) (fun h => absurd rfl h)
  have e3 : evL l ++ [[AV.int k, AV.int at_, AV.int a, AV.int b, AV.int c, AV.int f, AV.int u, AV.int m]] = evL (l ++ [⟨k, at_, a, b, c, f, u, m⟩]) := by rw [evL, evL, List.map_append]; rfl
  rw [e3]
  have hat : ∀ e ∈ l ++ [(⟨k, at_, a, b, c, f, u, m⟩ : Ev)], e.at_ ≤ at_ := fun e he => by
   rcases List.mem_append.1 he with he | he
   ·have := hlt e he; omega
   ·rw [List.mem_singleton] at he; subst he; exact Int.le_refl _
  have hap : aftL w (l ++ [⟨k, at_, a, b, c, f, u, m⟩]) = aft (aftL w l) ⟨k, at_, a, b, c, f, u, m⟩ := aftL_app w l _
  refine ih _ ⟨i + 1, l ++ [⟨k, at_, a, b, c, f, u, m⟩], at_, by rw [hap]; rfl, by omega, by simp; omega, ⟨hE.g.snoc (by omega) hp fun d hd => Int.le_trans (hlt d hd) hd2, by simp; omega, fun e he => by have := hat e he; omega, fun e he => ?_⟩, by omega, by omega, hat⟩ (by first | omega | (simp only; omega))
  rcases List.mem_append.1 he with he | he
  ·exact hE.m e he
  ·rw [List.mem_singleton] at he; subst he; exact ⟨hd4, hd5⟩
set_option maxRecDepth 100000
structure AtOk (w : Wd) (l : List Ev) (t : Int) : Prop where
 g : Dial.Mrg.Good w l
 t0 : 0 ≤ t
 t1 : t ≤ 20000000
noncomputable instance (w : Wd) (l : List Ev) (t : Int) : Decidable (AtOk w l t) := Classical.propDecidable _
noncomputable def atW (w : Wd) (l : List Ev) (t : Int) : Option Wd := if AtOk w l t then some (aftL w (untl l t)) else none
theorem noA {w : Wd} {l : List Ev} {t : Int} (h : ¬ AtOk w l t) : (some (0, 0, ([] : Lv), ([] : Lv), ([] : Lv), 420) : Option (Int × Int × Lv × Lv × Lv × Int)) = some (outW (atW w l t)) := by
 unfold atW; rw [if_neg h]; rfl
theorem untl_cons_le {e : Ev} {l : List Ev} {t : Int} (h : e.at_ ≤ t) : untl (e :: l) t = e :: untl l t := by unfold untl; rw [List.takeWhile_cons, decide_eq_true h]; rfl
theorem untl_cons_gt {e : Ev} {l : List Ev} {t : Int} (h : t < e.at_) : untl (e :: l) t = [] := by unfold untl; rw [List.takeWhile_cons, decide_eq_false (by omega)]; rfl
theorem merge_At_v (n : Nat) (w : Wd) (ha : In64 w.al) (l : List Ev) (hl : l.length ≤ 1000000) (t : Int) (hn : 100000001 < n) : merge_At n w.al w.ev (bL w.bl) (iL w.ba) (iL w.le) (evL l) t = some (outW (atW w l t)) := by
 unfold merge_At merge_At_1
 obtain ⟨r, h1, h2⟩ := merge_isPossible_v n w ha l hl t hn
 rw [h1, Option.bind_some]
 refine cBN (fun hr => ?_) (fun hr => noA fun p => by rw [h2.2 ⟨p.g, p.t0, p.t1⟩] at hr; cases hr)
 obtain ⟨hg, t0, t1⟩ := h2.1 hr
 have e1 : atW w l t = some (aftL w (untl l t)) := if_pos ⟨hg, t0, t1⟩
 rw [e1]
 have fin : ∀ i : Nat, untl l t = l.take i → (merge_Run n w.al w.ev (bL w.bl) (iL w.ba) (iL w.le) (evL (l.take i))).bind (fun y10 => some (y10.1, y10.2.1, y10.2.2.1, y10.2.2.2.1, y10.2.2.2.2.1, (0 : Int))) = some (outW (some (aftL w (untl l t)))) := fun i hi => by
  rw [← hi, merge_Run_v n w ha _ (by rw [hi]; simp; omega) hn, Option.bind_some, runW_good (hg.untl t)]; rfl
 refine iterF_ind (fun s => ∃ i : Nat, s = ((i : Int), evL (l.take i)) ∧ i ≤ l.length ∧ untl l t = l.take i ++ untl (l.drop i) t) (fun s => l.length - s.1.toNat) _ ?_ n _ ⟨0, rfl, by omega, rfl⟩ (by first | omega | (simp only; omega))
 rintro _ go ⟨i, rfl, hi, hE⟩ ih
 simp only at ih ⊢
 unfold merge_At_2
 rw [elen]
 refine cF (fun hlt => gN (by omega) ?_) (fun hlt => fin i ?_)
 ·obtain ⟨e, he⟩ := get_lt (l := l) (i := i) (by omega)
  obtain ⟨g0, g1, g2, g3, g4, g5, g6, g7⟩ := ecell he
  rw [bdrop he] at hE
  rw [g0, g1, g2, g3, g4, g5, g6, g7]
  refine cF (fun ht => fin i ?_) (fun ht => gN (by rw [elen, List.length_take]; omega) (gO (by omega) (by omega) ?_))
  ·rw [hE, untl_cons_gt ht, List.append_nil]
  ·have e2 : evL (l.take i) ++ [[AV.int e.k, AV.int e.at_, AV.int e.a, AV.int e.b, AV.int e.c, AV.int e.f, AV.int e.t, AV.int e.m]] = evL (l.take (i + 1)) := by rw [take_snoc he, evL, evL, List.map_append]; rfl
   rw [e2]
   refine ih _ ⟨i + 1, rfl, by omega, ?_⟩ (by first | omega | (simp only; omega))
   rw [hE, untl_cons_le (by omega), take_snoc he, List.append_assoc]; rfl
 ·rw [hE, List.drop_of_length_le (by omega)]
  show _ ++ [] = _
  rw [List.append_nil]
end Go.Proofs.YtgckmifmjiklmaaGreat
set_option maxRecDepth 100000
namespace Go.Proofs.YtgckmifmjiklmaaGreat
open Go Go.Sx
noncomputable section
def consR2 : List Nat := [11, 12, 13, 14, 15, 16, 17, 18, 19, 20, 21, 22, 23, 24, 25, 26, 27, 28, 29, 30, 32, 33, 34, 35, 36, 37, 38, 40, 46, 47, 51, 52, 54, 55, 56, 57, 58, 59, 61, 62, 63, 64, 66, 67, 69, 80, 83, 87, 90, 91, 92, 95, 96, 115, 116, 121, 122, 127, 128, 164, 165, 166, 197, 198, 201, 204, 205, 216, 229, 1000012, 1000056, 1000083, 1000197, 1000216, 1000229]
abbrev ref42_Run_a := Int × Int × Lv × Lv × Lv × Int × Int
abbrev ref42_Run_s0 := Int × Int × Int × Lv × Lv × Lv
abbrev ref42_Run_s1 := Int
def ref42_Run_3 (n : Nat) (go0 : ref42_Run_s0 → Option ref42_Run_a) (v5 : Lv) (v13 v14 v15 : Int) (v16 v17 v18 : Lv) : Option ref42_Run_a :=
 (bif (decide (v13 < (v5.length : Int))) then bif (decide (0 ≤ v13)) then (ref42_Step n v14 v15 v16 v17 v18 (cI v5 v13 0) (cI v5 v13 1) (cI v5 v13 2) (cI v5 v13 3) (cI v5 v13 4) (cI v5 v13 5) (cI v5 v13 6) (cI v5 v13 7)).bind fun y19 =>
 (bif (!(decide (y19.2.2.2.2.2 = 0))) then some (0, 0, ([] : Lv), ([] : Lv), ([] : Lv), v13, 420)
 else bif ((decide ((-9223372036854775808) ≤ (v13 + 1))) && (decide ((v13 + 1) ≤ 9223372036854775807))) then go0 ((v13 + 1), y19.1, y19.2.1, y19.2.2.1, y19.2.2.2.1, y19.2.2.2.2.1) else none) else none
 else some (v14, v15, v16, v17, v18, (v5.length : Int), 0))
def ref42_Run_2 (n : Nat) (go0 : ref42_Run_s1 → Option ref42_Run_a) (v0 v1 : Int) (v2 v3 v4 v5 : Lv) (v7 : Int) : Option ref42_Run_a :=
 (bif (decide (v7 < (v5.length : Int))) then bif (decide (0 ≤ v7)) then bif ((decide ((-9223372036854775808) ≤ (v7 - 1))) && (decide ((v7 - 1) ≤ 9223372036854775807))) then bif (decide (0 ≤ (v7 - 1))) then bif (decide ((v7 - 1) < (v5.length : Int))) then (bif (decide ((cI v5 v7 1) < (cI v5 (v7 - 1) 1))) then some (0, 0, ([] : Lv), ([] : Lv), ([] : Lv), 0, 420)
 else bif ((decide ((-9223372036854775808) ≤ (v7 + 1))) && (decide ((v7 + 1) ≤ 9223372036854775807))) then go0 (v7 + 1) else none) else none else none else none else none
 else (ref42_Copy n v0 v1 v2 v3 v4).bind fun y8 =>
 (iterF (fun go0 s => ref42_Run_3 n go0 v5 s.1 s.2.1 s.2.2.1 s.2.2.2.1 s.2.2.2.2.1 s.2.2.2.2.2) n ((0, y8.1, y8.2.1, y8.2.2.1, y8.2.2.2.1, y8.2.2.2.2) : ref42_Run_s0)))
def ref42_Run_1 (n : Nat) (v0 v1 : Int) (v2 v3 v4 v5 : Lv) : Option ref42_Run_a :=
 (ref42_Valid n v0 v1 v2 v3 v4).bind fun y6 =>
 (bif (!y6) then some (0, 0, ([] : Lv), ([] : Lv), ([] : Lv), 0, 420)
 else (bif (decide (20 < (v5.length : Int))) then some (0, 0, ([] : Lv), ([] : Lv), ([] : Lv), 0, 420)
 else (iterF (fun go0 s => ref42_Run_2 n go0 v0 v1 v2 v3 v4 v5 s) n (1 : ref42_Run_s1))))
def ref42_Run (n : Nat) (v0 v1 : Int) (v2 v3 v4 v5 : Lv) : Option ref42_Run_a := ref42_Run_1 n v0 v1 v2 v3 v4 v5
def ref42_Run_t : FnT := ⟨[(true, [.int, .int, (.sl (.cons .int (.cons .int (.cons .int .nil)))), (.sl (.cons .int .nil)), (.sl (.cons .int .nil))]), (false, [(.sl (.cons .int (.cons .int (.cons .int (.cons .int (.cons .int (.cons .int (.cons .int (.cons .int .nil)))))))))])], (.tup (.cons (.agg (.cons .i (.cons .i (.cons (.row 116 (.cons .int (.cons .int (.cons .int .nil)))) (.cons (.row 3 (.cons .int .nil)) (.cons (.row 3 (.cons .int .nil)) .nil)))))) (.cons .i (.cons .i .nil)))), fun n (s : Int × Int × Lv × Lv × Lv × Lv) => ref42_Run n s.1 s.2.1 s.2.2.1 s.2.2.2.1 s.2.2.2.2.1 s.2.2.2.2.2⟩
theorem ref42_Run_ok : ref42_Run_t.ok Tryz.prog 22 := FnT.ok_of (cfg := ⟨[((22, 4, 2), .inv [(.tmp 7 .int)]), ((22, 10, 8), .inv [(.tmp 9 .int), (.cell 6 0 .int), (.cell 6 1 .int), (.cellrow 6 2 116 (.cons .int (.cons .int (.cons .int .nil)))), (.cellrow 6 3 3 (.cons .int .nil)), (.cellrow 6 4 3 (.cons .int .nil))])], consR2, [], []⟩) (tab := ref42_Events_T) (mt := mt0) pfit ref42_Events_T_ok mt0_ok (fun s fn hf => by rw [Tryz.func22] at hf; cases hf; kernel_rfl) (fun n s => by kernel_rfl)
def ref42_Run_T : Tab := (22, ref42_Run_t) :: ref42_Events_T
theorem ref42_Run_T_ok : ref42_Run_T.ok Tryz.prog := Tab.ok_cons ref42_Run_ok ref42_Events_T_ok
abbrev ref42_Until_a := Lv
abbrev ref42_Until_s0 := Int
def ref42_Until_2 (n : Nat) (go0 : ref42_Until_s0 → Option ref42_Until_a) (v0 : Lv) (v1 v2 : Int) : Option ref42_Until_a :=
 (bif (decide (v2 < (v0.length : Int))) then bif (decide (0 ≤ v2)) then (bif (decide ((cI v0 v2 1) ≤ v1)) then bif ((decide ((-9223372036854775808) ≤ (v2 + 1))) && (decide ((v2 + 1) ≤ 9223372036854775807))) then go0 (v2 + 1) else none
 else bif (decide (v2 ≤ (v0.length : Int))) then some (List.take (v2).toNat v0) else none) else none
 else bif (decide (0 ≤ v2)) then bif (decide (v2 ≤ (v0.length : Int))) then some (List.take (v2).toNat v0) else none else none)
def ref42_Until_1 (n : Nat) (v0 : Lv) (v1 : Int) : Option ref42_Until_a :=
 (iterF (fun go0 s => ref42_Until_2 n go0 v0 v1 s) n (0 : ref42_Until_s0))
def ref42_Until (n : Nat) (v0 : Lv) (v1 : Int) : Option ref42_Until_a := ref42_Until_1 n v0 v1
def ref42_Until_t : FnT := ⟨[(false, [(.sl (.cons .int (.cons .int (.cons .int (.cons .int (.cons .int (.cons .int (.cons .int (.cons .int .nil)))))))))]), (false, [.int])], (.row 1000041 (.cons .int (.cons .int (.cons .int (.cons .int (.cons .int (.cons .int (.cons .int (.cons .int .nil))))))))), fun n (s : Lv × Int) => ref42_Until n s.1 s.2⟩
theorem ref42_Until_ok : ref42_Until_t.ok Tryz.prog 83 := FnT.ok_of (cfg := ⟨[((83, 2, 0), .inv [(.tmp 5 .int)])], consR2, [], []⟩) (tab := ref42_Run_T) (mt := mt0) pfit ref42_Run_T_ok mt0_ok (fun s fn hf => by rw [Tryz.func83] at hf; cases hf; kernel_rfl) (fun n s => by kernel_rfl)
def ref42_Until_T : Tab := (83, ref42_Until_t) :: ref42_Run_T
theorem ref42_Until_T_ok : ref42_Until_T.ok Tryz.prog := Tab.ok_cons ref42_Until_ok ref42_Run_T_ok
abbrev ref42_At_a := Int × Int × Lv × Lv × Lv × Int
def ref42_At_1 (n : Nat) (v0 v1 : Int) (v2 v3 v4 v5 : Lv) (v6 : Int) : Option ref42_At_a :=
 (ref42_Run n v0 v1 v2 v3 v4 v5).bind fun y7 =>
 (bif (!(decide (y7.2.2.2.2.2.2 = 0))) then some (0, 0, ([] : Lv), ([] : Lv), ([] : Lv), 420)
 else (bif (decide (0 ≤ v6)) then (bif (!(decide (v6 ≤ 20000000))) then some (0, 0, ([] : Lv), ([] : Lv), ([] : Lv), 420)
 else (ref42_Until n v5 v6).bind fun y14 =>
 (ref42_Run n v0 v1 v2 v3 v4 y14).bind fun y15 =>
 some (y15.1, y15.2.1, y15.2.2.1, y15.2.2.2.1, y15.2.2.2.2.1, 0))
 else some (0, 0, ([] : Lv), ([] : Lv), ([] : Lv), 420)))
def ref42_At (n : Nat) (v0 v1 : Int) (v2 v3 v4 v5 : Lv) (v6 : Int) : Option ref42_At_a := ref42_At_1 n v0 v1 v2 v3 v4 v5 v6
def ref42_At_t : FnT := ⟨[(true, [.int, .int, (.sl (.cons .int (.cons .int (.cons .int .nil)))), (.sl (.cons .int .nil)), (.sl (.cons .int .nil))]), (false, [(.sl (.cons .int (.cons .int (.cons .int (.cons .int (.cons .int (.cons .int (.cons .int (.cons .int .nil)))))))))]), (false, [.int])], (.tup (.cons (.agg (.cons .i (.cons .i (.cons (.row 116 (.cons .int (.cons .int (.cons .int .nil)))) (.cons (.row 3 (.cons .int .nil)) (.cons (.row 3 (.cons .int .nil)) .nil)))))) (.cons .i .nil))), fun n (s : Int × Int × Lv × Lv × Lv × Lv × Int) => ref42_At n s.1 s.2.1 s.2.2.1 s.2.2.2.1 s.2.2.2.2.1 s.2.2.2.2.2.1 s.2.2.2.2.2.2⟩
theorem ref42_At_ok : ref42_At_t.ok Tryz.prog 25 := FnT.ok_of (cfg := ⟨[], consR2, [], []⟩) (tab := ref42_Until_T) (mt := mt0) pfit ref42_Until_T_ok mt0_ok (fun s fn hf => by rw [Tryz.func25] at hf; cases hf; kernel_rfl) (fun n s => by kernel_rfl)
def ref42_At_T : Tab := (25, ref42_At_t) :: ref42_Until_T
theorem ref42_At_T_ok : ref42_At_T.ok Tryz.prog := Tab.ok_cons ref42_At_ok ref42_Until_T_ok
end
end Go.Proofs.YtgckmifmjiklmaaGreat
set_option maxRecDepth 100000
namespace Go.Proofs.YtgckmifmjiklmaaGreat
open Go Go.Sx Go.Dial.Blk Go.Dial.Mrg
theorem ref42_Run_v (n : Nat) (w : Wd) (l : List Ev) (hl : l.length ≤ 1000000) (hn : 1000001 < n) : ref42_Run n w.al w.ev (bL w.bl) (iL w.ba) (iL w.le) (evL l) = some (outR (runW w l)) := by
 unfold ref42_Run ref42_Run_1
 rw [ref42_Valid_v n w (by omega), Option.bind_some]
 refine cBN (fun hv => ?_) (fun h => noR fun p => by rw [vB_true p.v] at h; cases h)
 have hw := vB_iff.1 hv
 rw [elen]
 refine cF (fun h20 => noR fun p => by have := p.few; omega) (fun h20 => ?_)
 have fin : Srt l → (ref42_Copy n w.al w.ev (bL w.bl) (iL w.ba) (iL w.le)).bind (fun y8 =>
   (iterF (fun go0 s => ref42_Run_3 n go0 (evL l) s.1 s.2.1 s.2.2.1 s.2.2.2.1 s.2.2.2.2.1 s.2.2.2.2.2) n ((0, y8.1, y8.2.1, y8.2.2.1, y8.2.2.2.1, y8.2.2.2.2) : ref42_Run_s0))) = some (outR (runW w l)) := fun hs => by
  rw [ref42_Copy_v n w (by have := hw.few; omega) (by rw [hw.bal]; decide) (by rw [hw.lel]; decide), Option.bind_some]
  have hE : runW w l = runF w l 0 := by unfold runW; rw [if_pos ⟨hw, by omega, hs⟩]
  rw [hE]
  refine iterF_ind (fun s => ∃ (i : Nat) (u : Wd), s = ((i : Int), u.al, u.ev, bL u.bl, iL u.ba, iL u.le) ∧ i ≤ l.length ∧ WV u ∧ runF u (l.drop i) i = runF w l 0) (fun s => l.length - s.1.toNat) _ ?_ n _ ⟨0, w, rfl, by omega, hw, rfl⟩ (by first | omega | (simp only; omega))
  rintro _ go ⟨i, u, rfl, hi, hu, hE⟩ ih
  simp only at ih ⊢
  unfold ref42_Run_3
  rw [elen]
  by_cases hlt : i < l.length
  ·obtain ⟨e, he⟩ := get_lt hlt
   obtain ⟨g0, g1, g2, g3, g4, g5, g6, g7⟩ := ecell he
   refine cF (fun _ => gN (by omega) ?_) (fun h => absurd h (by omega))
   rw [g0, g1, g2, g3, g4, g5, g6, g7, ref42_Step_v n u e (by omega), Option.bind_some]
   rw [bdrop he, runF] at hE
   cases hs : stepW u e with
   | none =>
    rw [hs] at hE
    rw [← hE]
    exact cN (fun h => absurd h (by show ¬ (420 : Int) = 0; decide)) (fun _ => rfl)
   | some v =>
    rw [hs] at hE
    obtain ⟨hp, _⟩ := stepW_some hs
    have hv2 : WV v := by rw [(stepW_some hs).2]; exact hp.v2
    refine cN (fun _ => gO (by omega) (by omega) ?_) (fun h => absurd rfl h)
    exact ih _ ⟨i + 1, v, rfl, by omega, hv2, hE⟩ (by first | omega | (simp only; omega))
  ·have hi2 : i = l.length := by omega
   subst hi2
   refine cF (fun h => absurd h (by omega)) (fun _ => ?_)
   rw [List.drop_length, runF] at hE
   rw [← hE]; rfl
 refine iterF_ind (fun s => ∃ i : Nat, s = (i : Int) ∧ 1 ≤ i ∧ i ≤ l.length + 1 ∧ ∀ (k : Nat) a b, k + 1 < i → l[k]? = some a → l[k + 1]? = some b → a.at_ ≤ b.at_) (fun s => (l.length + 1) - s.toNat) _ ?_ n _ ⟨1, rfl, by omega, by omega, fun k a b hk => by omega⟩ (by first | omega | (simp only; omega))
 rintro _ go ⟨i, rfl, h1, h2, hs⟩ ih
 unfold ref42_Run_2
 rw [elen]
 refine cF (fun hp => ?_) (fun hp => ?_)
 ·obtain ⟨j, rfl⟩ : ∃ j, i = j + 1 := ⟨i - 1, by omega⟩
  obtain ⟨b, hb⟩ := get_lt (l := l) (i := j + 1) (by omega)
  obtain ⟨a, hA⟩ := get_lt (l := l) (i := j) (by omega)
  have gb := (ecell hb).2.1
  have ga := (ecell hA).2.1
  have e1 : ((j + 1 : Nat) : Int) - 1 = (j : Int) := by omega
  rw [e1, gb, ga]
  refine gN (by omega) (gO (by omega) (by omega) (gN (by omega) (gN (by omega) (cF (fun hlt => noR fun p => ?_) (fun hge => gO (by omega) (by omega) ?_)))))
  ·have := (srt_iff l).1 p.srt j a b hA hb; omega
  ·refine ih _ ⟨j + 2, by omega, by omega, by omega, fun k x y hk hx hy => ?_⟩ (by omega)
   by_cases hkj : k = j
   ·subst hkj; rw [hA] at hx; rw [hb] at hy; cases hx; cases hy; omega
   ·exact hs k x y (by omega) hx hy
 ·exact fin ((srt_iff l).2 fun k a b h3 h4 => hs k a b (by have := (List.getElem?_eq_some_iff.1 h4).1; omega) h3 h4)
theorem ref42_Until_v (n : Nat) (l : List Ev) (hl : l.length ≤ 1000000) (t : Int) (hn : 1000001 < n) : ref42_Until n (evL l) t = some (evL (untl l t)) := by
 unfold ref42_Until ref42_Until_1
 refine iterF_ind (fun s => ∃ i : Nat, s = (i : Int) ∧ i ≤ l.length ∧ untl l t = l.take i ++ untl (l.drop i) t) (fun s => l.length - s.toNat) _ ?_ n _ ⟨0, rfl, by omega, rfl⟩ (by first | omega | (simp only; omega))
 rintro _ go ⟨i, rfl, hi, hE⟩ ih
 unfold ref42_Until_2
 rw [elen]
 have htk : untl l t = l.take i → some (List.take (i : Int).toNat (evL l)) = some (evL (untl l t)) := fun h => by rw [h, evL, evL, List.map_take, Int.toNat_natCast]
 refine cF (fun hlt => gN (by omega) ?_) (fun hlt => gN (by omega) (gN (by omega) (htk ?_)))
 ·obtain ⟨e, he⟩ := get_lt (l := l) (i := i) (by omega)
  have g1 := (ecell he).2.1
  rw [bdrop he] at hE
  rw [g1]
  refine cF (fun ht => gO (by omega) (by omega) (ih _ ⟨i + 1, rfl, by omega, ?_⟩ (by first | omega | (simp only; omega)))) (fun ht => gN (by omega) (htk ?_))
  ·rw [hE, untl_cons_le ht, take_snoc he, List.append_assoc]; rfl
  ·rw [hE, untl_cons_gt (by omega), List.append_nil]
 ·rw [hE, List.drop_of_length_le (by omega)]
  show _ ++ [] = _
  rw [List.append_nil]
theorem ref42_At_v (n : Nat) (w : Wd) (l : List Ev) (hl : l.length ≤ 1000000) (t : Int) (hn : 1000001 < n) : ref42_At n w.al w.ev (bL w.bl) (iL w.ba) (iL w.le) (evL l) t = some (outW (atW w l t)) := by
 unfold ref42_At ref42_At_1
 rw [ref42_Run_v n w l hl hn, Option.bind_some]
 cases hr : runW w l with
 | mk o j =>
  cases o with
  | none =>
   refine cN (fun h => absurd h (by show ¬ (420 : Int) = 0; decide)) (fun _ => noA fun p => ?_)
   rw [runW_good p.g] at hr; cases hr
  | some v =>
   have hg := runW_some hr
   refine cN (fun _ => cF (fun t0 => cN (fun t1 => ?_) (fun h => noA fun p => h p.t1)) (fun h => noA fun p => h p.t0)) (fun h => absurd rfl h)
   have e1 : atW w l t = some (aftL w (untl l t)) := if_pos ⟨hg, t0, t1⟩
   have hul := (hg.untl t).few
   rw [ref42_Until_v n l hl t hn, Option.bind_some, ref42_Run_v n w _ (by omega) hn, Option.bind_some, runW_good (hg.untl t), e1]; rfl
set_option maxRecDepth 100000
theorem tcell' {xs : List (Int × Int × Int)} {i : Nat} {x : Int × Int × Int} (h : xs[i]? = some x) : cI (xs.map triR) (i : Int) 0 = x.1 ∧ cI (xs.map triR) (i : Int) 1 = x.2.1 ∧ cI (xs.map triR) (i : Int) 2 = x.2.2 := by
 have hc : ∀ k, Sx.cA (xs.map triR) (i : Int) k = (triR x).getD k (.int 0) := fun k => cA_map (by simpa using h)
 refine ⟨?_, ?_, ?_⟩ <;> (simp only [cI, hc]; rfl)
theorem tmod_row (xs : List Dt) (i : Nat) (f : List AV → List AV) (h : Dt → Dt) (hf : ∀ x, f (triR x) = triR (h x)) : List.modify (xs.map triR) i f = (xs.modify i h).map triR := by
 induction xs generalizing i with
 | nil => cases i <;> rfl
 | cons x xs ih =>
  cases i with
  | zero => simp [List.modify_zero_cons, hf]
  | succ i => simp only [List.map_cons, List.modify_succ_cons, ih]
theorem set0 (xs : List Dt) (i : Nat) (v : Int) : List.modify (xs.map triR) i (fun r => r.set 0 (AV.int v)) = (xs.modify i fun d => (v, d.2)).map triR := tmod_row xs i _ _ fun _ => rfl
theorem set1 (xs : List Dt) (i : Nat) (v : Int) : List.modify (xs.map triR) i (fun r => r.set 1 (AV.int v)) = (xs.modify i fun d => (d.1, v, d.2.2)).map triR := tmod_row xs i _ _ fun _ => rfl
theorem set2 (xs : List Dt) (i : Nat) (v : Int) : List.modify (xs.map triR) i (fun r => r.set 2 (AV.int v)) = (xs.modify i fun d => (d.1, d.2.1, v)).map triR := tmod_row xs i _ _ fun _ => rfl
theorem modify_at {α : Type} {xs : List α} {i : Nat} {x : α} (h : xs[i]? = some x) (f : α → α) : xs.modify i f = xs.take i ++ f x :: xs.drop (i + 1) := by
 induction xs generalizing i with
 | nil => simp at h
 | cons y ys ih =>
  cases i with
  | zero => simp at h; subst h; rfl
  | succ i =>
   rw [List.modify_succ_cons, ih (by simpa using h)]; rfl
theorem merge_del8 (n : Nat) {α : Type} (go0 : Lv × Int → Option merge_Debts_a) (v17 : Int) (r : merge_Debts_a) (xs : List Dt) (hl : xs.length ≤ 1000000) (i0 j0 : Nat) (h0 : i0 ≤ j0) (hj : j0 ≤ xs.length) (v0 : -1 ≤ v17) (v1 : v17 ≤ 1000000) (hf : (xs.take j0).filter real = xs.take i0) (hi0 : i0 < j0)
  (hgo : go0 ((xs.filter real).map triR, v17 + 1) = some r) (hn : 1000001 < n) :
  (iterF (fun go1 s => merge_Debts_8 n go0 go1 v17 s.1 s.2.1 s.2.2) n (((i0 : Int), (j0 : Int), xs.map triR) : merge_Debts_s1)) = some r := by
 refine iterF_ind (fun s => ∃ (i j : Nat) (ys : List Dt), s = ((i : Int), (j : Int), ys.map triR) ∧ i < j ∧ j ≤ xs.length ∧ ys.length = xs.length ∧ ys.take i = (xs.take j).filter real ∧ ys.drop j = xs.drop j ∧ i ≤ ys.length) (fun s => xs.length - s.2.1.toNat) _ ?_ n _ ⟨i0, j0, xs, rfl, hi0, hj, rfl, hf.symm, rfl, by omega⟩ (by first | omega | (simp only; omega))
 rintro _ go ⟨i, j, ys, rfl, hij, hjl, hyl, htk, hdr, hil⟩ ih
 simp only at ih ⊢
 unfold merge_Debts_8
 rw [List.length_map]
 refine cF (fun hlt => gN (by omega) ?_) (fun hlt => ?_)
 ·obtain ⟨y, hy⟩ := get_lt (l := ys) (i := j) (by omega)
  obtain ⟨g0, g1, g2⟩ := tcell' hy
  have hx : xs[j]? = some y := by
   have : (ys.drop j)[0]? = (xs.drop j)[0]? := by rw [hdr]
   rw [List.getElem?_drop, List.getElem?_drop] at this
   simp only [Nat.add_zero] at this
   rw [← this]; exact hy
  have htx : (xs.take (j + 1)).filter real = (xs.take j).filter real ++ [y].filter real := by rw [take_snoc hx, List.filter_append]
  have hd1 : ys.drop (j + 1) = xs.drop (j + 1) := by
   have := congrArg (List.drop 1) hdr
   rwa [List.drop_drop, List.drop_drop] at this
  rw [g0, g1, g2]
  by_cases hr : y.1 = y.2.1
  ·have hy0 : real y = false := by unfold real; simp [hr]
   rw [decide_eq_true hr, Bool.not_true, cond_false]
   refine gO (by omega) (by omega) (ih _ ⟨i, j + 1, ys, rfl, by omega, by omega, hyl, ?_, hd1, hil⟩ (by first | omega | (simp only; omega)))
   rw [htx, htk]; simp [hy0]
  ·have hy0 : real y = true := by unfold real; simp [hr]
   rw [decide_eq_false hr, Bool.not_false, cond_true]
   refine gN (by omega) (gN (by omega) (gO (by omega) (by omega) (gO (by omega) (by omega) ?_)))
   have e3 : (i : Int).toNat = i := by omega
   rw [e3, set0, set1, set2]
   obtain ⟨z, hz⟩ := get_lt (l := ys) (i := i) (by omega)
   have hm : ((ys.modify i fun d => (y.1, d.2)).modify i fun d => (d.1, y.2.1, d.2.2)).modify i (fun d => (d.1, d.2.1, y.2.2)) = ys.take i ++ y :: ys.drop (i + 1) := by
    rw [← modify_at hz fun _ => y]
    rw [List.modify_modify_eq, List.modify_modify_eq]; rfl
   rw [hm]
   have hyl' : (ys.take i ++ y :: ys.drop (i + 1)).length = xs.length := by simp; omega
   refine ih _ ⟨i + 1, j + 1, _, rfl, by omega, by omega, hyl', ?_, ?_, by omega⟩ (by first | omega | (simp only; omega))
   ·rw [htx, ← htk]
    have : (ys.take i).length = i := by simp; omega
    rw [List.take_append, this, List.take_of_length_le (by omega)]
    simp [hy0]
   ·have : (ys.take i).length = i := by simp; omega
    rw [List.drop_append, this, List.drop_of_length_le (by omega), List.nil_append, show j + 1 - i = (j - i) + 1 by omega, List.drop_succ_cons, List.drop_drop, ← hd1]
    congr 1; omega
 ·have hje : j = xs.length := by omega
  subst hje
  rw [List.take_length] at htk
  have e1 : (i : Int).toNat = i := by omega
  have e2 : List.take i ((List.take i (ys.map triR)) ++ (List.replicate ((ys.length : Int) - (i : Int)).toNat [AV.int 0, AV.int 0, AV.int 0])) = (xs.filter real).map triR := by
   rw [List.take_append_of_le_length (by simp; omega), List.take_take, Nat.min_self, ← List.map_take, htk]
  rw [e1, e2]
  refine gN (by omega) (gN (by omega) (gN ?_ (gO (by omega) (by omega) hgo)))
  simp; omega
theorem merge_del (n : Nat) (go0 : Lv × Int → Option merge_Debts_a) (v17 : Int) (r : merge_Debts_a) (xs : List Dt) (hl : xs.length ≤ 1000000) (v0 : -1 ≤ v17) (v1 : v17 ≤ 1000000)
  (hgo : go0 ((xs.filter real).map triR, v17 + 1) = some r) (hn : 1000001 < n) :
  (iterF (fun go1 s => merge_Debts_7 n go0 go1 v17 (xs.map triR) s) n (0 : merge_Debts_s2)) = some r := by
 refine iterF_ind (fun s => ∃ i : Nat, s = (i : Int) ∧ i ≤ xs.length ∧ (xs.take i).filter real = xs.take i) (fun s => xs.length - s.toNat) _ ?_ n _ ⟨0, rfl, by omega, rfl⟩ (by first | omega | (simp only; omega))
 rintro _ go ⟨i, rfl, hi, hall⟩ ih
 unfold merge_Debts_7
 rw [List.length_map]
 refine cF (fun hlt => gN (by omega) ?_) (fun hlt => ?_)
 ·obtain ⟨x, hx⟩ := get_lt (l := xs) (i := i) (by omega)
  obtain ⟨g0, g1, g2⟩ := tcell' hx
  have htx : (xs.take (i + 1)).filter real = (xs.take i).filter real ++ [x].filter real := by rw [take_snoc hx, List.filter_append]
  rw [g0, g1]
  refine cF (fun he => ?_) (fun he => gO (by omega) (by omega) (ih _ ⟨i + 1, rfl, by omega, ?_⟩ (by first | omega | (simp only; omega))))
  ·have hx0 : real x = false := by unfold real; simp [he]
   rw [decide_eq_false (by omega : ¬ (i : Int) = -1), cond_false]
   refine gO (by omega) (by omega) ?_
   have := merge_del8 (α := Int) n go0 v17 r xs hl i (i + 1) (by omega) (by omega) v0 v1 (by rw [htx, hall]; simp [hx0]) (by omega) hgo hn
   rw [show (((i + 1 : Nat)) : Int) = (i : Int) + 1 by omega] at this
   exact this
  ·have hx0 : real x = true := by unfold real; simp [he]
   rw [htx, hall, take_snoc hx]; simp [hx0]
 ·have : i = xs.length := by omega
  subst this
  rw [List.take_length] at hall
  rw [hall] at hgo
  exact gO (by omega) (by omega) hgo
theorem merge_ren (n : Nat) (go0 : Lv × Int → Option merge_Debts_a) (v5 : Lv) (v17 a c : Int) (r : merge_Debts_a) (xs zs : List Dt) (hz : zs.length = xs.length) (hl : xs.length ≤ 1000000) (v0 : -1 ≤ v17) (v1 : v17 ≤ 1000000) (ha : cI v5 v17 2 = a) (hc : cI v5 v17 3 = c)
  (hgo : go0 ((Dial.Mrg.renamed xs a c).map triR, v17 + 1) = some r) (hn : 1000001 < n) :
  (iterF (fun go1 s => merge_Debts_6 n go0 go1 v5 (zs.map triR) v17 s.1 s.2) n ((0, xs.map triR) : merge_Debts_s3)) = some r := by
 refine iterF_ind (fun s => ∃ i : Nat, s = ((i : Int), ((xs.take i).map (ren a c) ++ xs.drop i).map triR) ∧ i ≤ xs.length) (fun s => xs.length - s.1.toNat) _ ?_ n _ ⟨0, rfl, by omega⟩ (by first | omega | (simp only; omega))
 rintro _ go ⟨i, rfl, hi⟩ ih
 simp only at ih ⊢
 unfold merge_Debts_6
 have hzl : ((zs.map triR).length : Int) = (xs.length : Int) := by rw [List.length_map, hz]
 rw [hzl]
 have hyl : ((xs.take i).map (ren a c) ++ xs.drop i).length = xs.length := by simp; omega
 refine cF (fun hlt => gN (by omega) (gN (by rw [List.length_map]; omega) ?_)) (fun hlt => ?_)
 ·obtain ⟨x, hx⟩ := get_lt (l := xs) (i := i) (by omega)
  obtain ⟨ys, hys⟩ : ∃ ys, ys = (xs.take i).map (ren a c) ++ xs.drop i := ⟨_, rfl⟩
  have hlen : ((xs.take i).map (ren a c)).length = i := by simp; omega
  have hyx : ys[i]? = some x := by
   rw [hys, List.getElem?_append_right (by omega), hlen, Nat.sub_self, List.getElem?_drop]; exact hx
  rw [← hys]
  obtain ⟨g0, g1, g2⟩ := tcell' hyx
  have hst : ∀ g : Dt → Dt, g x = ren a c x → ys.modify i g = (xs.take (i + 1)).map (ren a c) ++ xs.drop (i + 1) := fun g hg => by
   rw [modify_at hyx, hg, hys, List.take_append_of_le_length (by omega), List.take_of_length_le (by omega), List.drop_append, hlen, List.drop_of_length_le (by omega), take_snoc hx, List.map_append, List.drop_drop]
   simp
  have hfin : ∀ g : Dt → Dt, g x = ren a c x → go ((i : Int) + 1, (ys.modify i g).map triR) = some r := fun g hg => by
   refine ih _ ⟨i + 1, by rw [hst g hg]; rfl, by omega⟩ (by first | omega | (simp only; omega))
  have e3 : (i : Int).toNat = i := by omega
  rw [g0, g1, ha, hc, e3]
  refine cF (fun h1 => cF (fun h2 => ?_) (fun h2 => ?_)) (fun h1 => cF (fun h2 => ?_) (fun h2 => ?_))
  ·rw [set0, set1, List.modify_modify_eq]
   exact gO (by omega) (by omega) (hfin _ (by unfold ren; rw [if_pos h1, if_pos h2]; rfl))
  ·rw [set0]
   exact gO (by omega) (by omega) (hfin _ (by unfold ren; rw [if_pos h1, if_neg h2]))
  ·rw [set1]
   exact gO (by omega) (by omega) (hfin _ (by unfold ren; rw [if_neg h1, if_pos h2]))
  ·refine gO (by omega) (by omega) ?_
   have := hfin id (by unfold ren; rw [if_neg h1, if_neg h2]; rfl)
   rwa [List.modify_id] at this
 ·have : i = xs.length := by omega
  subst this
  rw [List.take_length, List.drop_length, List.append_nil]
  exact merge_del n go0 v17 r (xs.map (ren a c)) (by simpa using hl) v0 v1 hgo hn
theorem merge_ren2 (n : Nat) (go0 : Lv × Int → Option merge_Debts_a) (v5 : Lv) (v17 a c : Int) (r : merge_Debts_a) (xs zs : List Dt) (hz : zs.length + 1 = xs.length) (hl : xs.length ≤ 1000000) (v0 : -1 ≤ v17) (v1 : v17 ≤ 1000000) (ha : cI v5 v17 2 = a) (hc : cI v5 v17 4 = c)
  (hgo : go0 ((Dial.Mrg.renamed xs a c).map triR, v17 + 1) = some r) (hn : 1000001 < n) :
  (iterF (fun go1 s => merge_Debts_12 n go0 go1 v5 (zs.map triR) v17 s.1 s.2) n ((0, xs.map triR) : merge_Debts_s3)) = some r := by
 refine iterF_ind (fun s => ∃ i : Nat, s = ((i : Int), ((xs.take i).map (ren a c) ++ xs.drop i).map triR) ∧ i ≤ xs.length) (fun s => xs.length - s.1.toNat) _ ?_ n _ ⟨0, rfl, by omega⟩ (by first | omega | (simp only; omega))
 rintro _ go ⟨i, rfl, hi⟩ ih
 simp only at ih ⊢
 unfold merge_Debts_12
 have hzl : ((zs.map triR).length : Int) + 1 = (xs.length : Int) := by rw [List.length_map]; omega
 rw [hzl]
 have hyl : ((xs.take i).map (ren a c) ++ xs.drop i).length = xs.length := by simp; omega
 refine cF (fun hlt => gN (by omega) (gN (by rw [List.length_map]; omega) ?_)) (fun hlt => ?_)
 ·obtain ⟨x, hx⟩ := get_lt (l := xs) (i := i) (by omega)
  obtain ⟨ys, hys⟩ : ∃ ys, ys = (xs.take i).map (ren a c) ++ xs.drop i := ⟨_, rfl⟩
  have hlen : ((xs.take i).map (ren a c)).length = i := by simp; omega
  have hyx : ys[i]? = some x := by
   rw [hys, List.getElem?_append_right (by omega), hlen, Nat.sub_self, List.getElem?_drop]; exact hx
  rw [← hys]
  obtain ⟨g0, g1, g2⟩ := tcell' hyx
  have hst : ∀ g : Dt → Dt, g x = ren a c x → ys.modify i g = (xs.take (i + 1)).map (ren a c) ++ xs.drop (i + 1) := fun g hg => by
   rw [modify_at hyx, hg, hys, List.take_append_of_le_length (by omega), List.take_of_length_le (by omega), List.drop_append, hlen, List.drop_of_length_le (by omega), take_snoc hx, List.map_append, List.drop_drop]
   simp
  have hfin : ∀ g : Dt → Dt, g x = ren a c x → go ((i : Int) + 1, (ys.modify i g).map triR) = some r := fun g hg => by
   refine ih _ ⟨i + 1, by rw [hst g hg]; rfl, by omega⟩ (by first | omega | (simp only; omega))
  have e3 : (i : Int).toNat = i := by omega
  rw [g0, g1, ha, hc, e3]
  refine cF (fun h1 => cF (fun h2 => ?_) (fun h2 => ?_)) (fun h1 => cF (fun h2 => ?_) (fun h2 => ?_))
  ·rw [set0, set1, List.modify_modify_eq]
   exact gO (by omega) (by omega) (hfin _ (by unfold ren; rw [if_pos h1, if_pos h2]; rfl))
  ·rw [set0]
   exact gO (by omega) (by omega) (hfin _ (by unfold ren; rw [if_pos h1, if_neg h2]))
  ·rw [set1]
   exact gO (by omega) (by omega) (hfin _ (by unfold ren; rw [if_neg h1, if_pos h2]))
  ·refine gO (by omega) (by omega) ?_
   have := hfin id (by unfold ren; rw [if_neg h1, if_neg h2]; rfl)
   rwa [List.modify_id] at this
 ·have : i = xs.length := by omega
  subst this
  rw [List.take_length, List.drop_length, List.append_nil]
  exact merge_del n go0 v17 r (xs.map (ren a c)) (by simpa using hl) v0 v1 hgo hn
theorem merge_ren3 (n : Nat) (go0 : Lv × Int → Option merge_Debts_a) (v5 : Lv) (v17 a c : Int) (r : merge_Debts_a) (xs : List Dt) (hl : xs.length ≤ 1000000) (v0 : -1 ≤ v17) (v1 : v17 ≤ 1000000) (ha : cI v5 v17 2 = a) (hc : cI v5 v17 4 = c)
  (hgo : go0 ((Dial.Mrg.renamed xs a c).map triR, v17 + 1) = some r) (hn : 1000001 < n) :
  (iterF (fun go1 s => merge_Debts_19 n go0 go1 v5 (xs.map triR) v17 s.1 s.2) n ((0, xs.map triR) : merge_Debts_s3)) = some r := by
 refine iterF_ind (fun s => ∃ i : Nat, s = ((i : Int), ((xs.take i).map (ren a c) ++ xs.drop i).map triR) ∧ i ≤ xs.length) (fun s => xs.length - s.1.toNat) _ ?_ n _ ⟨0, rfl, by omega⟩ (by first | omega | (simp only; omega))
 rintro _ go ⟨i, rfl, hi⟩ ih
 simp only at ih ⊢
 unfold merge_Debts_19
 have hzl : ((xs.map triR).length : Int) = (xs.length : Int) := by rw [List.length_map]
 rw [hzl]
 have hyl : ((xs.take i).map (ren a c) ++ xs.drop i).length = xs.length := by simp; omega
 refine cF (fun hlt => gN (by omega) (gN (by rw [List.length_map]; omega) ?_)) (fun hlt => ?_)
 ·obtain ⟨x, hx⟩ := get_lt (l := xs) (i := i) (by omega)
  obtain ⟨ys, hys⟩ : ∃ ys, ys = (xs.take i).map (ren a c) ++ xs.drop i := ⟨_, rfl⟩
  have hlen : ((xs.take i).map (ren a c)).length = i := by simp; omega
  have hyx : ys[i]? = some x := by
   rw [hys, List.getElem?_append_right (by omega), hlen, Nat.sub_self, List.getElem?_drop]; exact hx
  rw [← hys]
  obtain ⟨g0, g1, g2⟩ := tcell' hyx
  have hst : ∀ g : Dt → Dt, g x = ren a c x → ys.modify i g = (xs.take (i + 1)).map (ren a c) ++ xs.drop (i + 1) := fun g hg => by
   rw [modify_at hyx, hg, hys, List.take_append_of_le_length (by omega), List.take_of_length_le (by omega), List.drop_append, hlen, List.drop_of_length_le (by omega), take_snoc hx, List.map_append, List.drop_drop]
   simp
  have hfin : ∀ g : Dt → Dt, g x = ren a c x → go ((i : Int) + 1, (ys.modify i g).map triR) = some r := fun g hg => by
   refine ih _ ⟨i + 1, by rw [hst g hg]; rfl, by omega⟩ (by first | omega | (simp only; omega))
  have e3 : (i : Int).toNat = i := by omega
  rw [g0, g1, ha, hc, e3]
  refine cF (fun h1 => cF (fun h2 => ?_) (fun h2 => ?_)) (fun h1 => cF (fun h2 => ?_) (fun h2 => ?_))
  ·rw [set0, set1, List.modify_modify_eq]
   exact gO (by omega) (by omega) (hfin _ (by unfold ren; rw [if_pos h1, if_pos h2]; rfl))
  ·rw [set0]
   exact gO (by omega) (by omega) (hfin _ (by unfold ren; rw [if_pos h1, if_neg h2]))
  ·rw [set1]
   exact gO (by omega) (by omega) (hfin _ (by unfold ren; rw [if_neg h1, if_pos h2]))
  ·refine gO (by omega) (by omega) ?_
   have := hfin id (by unfold ren; rw [if_neg h1, if_neg h2]; rfl)
   rwa [List.modify_id] at this
 ·have : i = xs.length := by omega
  subst this
  rw [List.take_length, List.drop_length, List.append_nil]
  exact merge_del n go0 v17 r (xs.map (ren a c)) (by simpa using hl) v0 v1 hgo hn
def outD : Option (List Dt) → Lv × Int
 | some ds => (ds.map triR, 0)
 | none => (([] : Lv), 420)
structure DebtsOk (w : Wd) (l : List Ev) (ds : List Dt) : Prop where
 g : Dial.Mrg.Good w l
 c : ∀ d ∈ ds, DC d
noncomputable instance (w : Wd) (l : List Ev) (ds : List Dt) : Decidable (DebtsOk w l ds) := Classical.propDecidable _
noncomputable def debtsW (w : Wd) (l : List Ev) (ds : List Dt) : Option (List Dt) := if DebtsOk w l ds then some (debtsL ds l) else none
theorem noD {w : Wd} {l : List Ev} {ds : List Dt} (h : ¬ DebtsOk w l ds) : (some (([] : Lv), 420) : Option (Lv × Int)) = some (outD (debtsW w l ds)) := by
 unfold debtsW; rw [if_neg h]; rfl
theorem merge_Debts_v (n : Nat) (w : Wd) (ha : In64 w.al) (l : List Ev) (hl : l.length ≤ 1000000) (ds : List Dt) (hdl : ds.length ≤ 1000) (hn : 100000001 < n) : merge_Debts n w.al w.ev (bL w.bl) (iL w.ba) (iL w.le) (evL l) (ds.map triR) = some (outD (debtsW w l ds)) := by
 unfold merge_Debts merge_Debts_1
 rw [merge_Run_v n w ha l hl hn, Option.bind_some]
 unfold merge_Debts_2
 cases hr : runW w l with
 | mk o j =>
  cases o with
  | none =>
   refine cN (fun h => absurd h (by show ¬ (420 : Int) = 0; decide)) (fun _ => noD fun p => ?_)
   rw [runW_good p.g] at hr; cases hr
  | some v =>
   have hg := runW_some hr
   refine cN (fun _ => ?_) (fun h => absurd rfl h)
   refine iterF_ind (fun s => ∃ i : Nat, s = (i : Int) ∧ i ≤ ds.length ∧ ∀ (k : Nat) d, k < i → ds[k]? = some d → DC d) (fun s => ds.length - s.toNat) _ ?_ n _ ⟨0, rfl, by omega, fun k d h => by omega⟩ (by first | omega | (simp only; omega))
   rintro _ go ⟨i, rfl, hi, hall⟩ ih
   unfold merge_Debts_3
   rw [List.length_map]
   refine cF (fun hlt => gN (by omega) ?_) (fun hlt => ?_)
   ·obtain ⟨d, hd⟩ := get_lt (l := ds) (i := i) (by omega)
    have hdm := List.mem_of_getElem? hd
    obtain ⟨g0, g1, g2⟩ := tcell' hd
    rw [g0, g1]
    refine cF (fun a0 => cN (fun a1 => cF (fun b0 => cN (fun b1 => gO (by omega) (by omega) (ih _ ⟨i + 1, rfl, by omega, fun k x hk hx => ?_⟩ (by first | omega | (simp only; omega)))) (fun h => noD fun p => h (p.c d hdm).2.2)) (fun h => noD fun p => h (p.c d hdm).2.1)) (fun h => noD fun p => h (p.c d hdm).1.2)) (fun h => noD fun p => h (p.c d hdm).1.1)
    by_cases hki : k < i
    ·exact hall k x hki hx
    ·have : k = i := by omega
     subst this; rw [hd] at hx; cases hx; exact ⟨⟨a0, a1⟩, b0, b1⟩
   ·have hDC : ∀ d ∈ ds, DC d := fun d hd => by
     obtain ⟨k, hk⟩ := List.getElem?_of_mem hd
     exact hall k d (by have := (List.getElem?_eq_some_iff.1 hk).1; omega) hk
    have hok : debtsW w l ds = some (debtsL ds l) := if_pos ⟨hg, hDC⟩
    have hcl : slices_Clone___api_Debt_api_Debt n (ds.map triR) = some (ds.map triR) := by
     unfold slices_Clone___api_Debt_api_Debt slices_Clone___api_Debt_api_Debt_1
     rw [decide_eq_true (by rw [List.length_map]; omega)]; rfl
    rw [hok, hcl, Option.bind_some]
    clear ih
    have h20 := hg.few
    refine iterF_ind (fun s => ∃ (i : Nat) (xs : List Dt), s = (xs.map triR, (i : Int)) ∧ i ≤ l.length ∧ debtsL xs (l.drop i) = debtsL ds l ∧ xs.length ≤ ds.length + i) (fun s => l.length - s.2.toNat) _ ?_ n _ ⟨0, ds, rfl, by omega, rfl, by omega⟩ (by first | omega | (simp only; omega))
    rintro _ go ⟨i, xs, rfl, hi, hE, hxl⟩ ih
    simp only at ih ⊢
    unfold merge_Debts_4
    rw [elen]
    refine cF (fun hlt => gN (by omega) ?_) (fun hlt => ?_)
    ·obtain ⟨e, he⟩ := get_lt (l := l) (i := i) (by omega)
     obtain ⟨g0, g1, g2, g3, g4, g5, g6, g7⟩ := ecell he
     have hf := hg.p.forms e (List.mem_of_getElem? he)
     rw [bdrop he] at hE
     have hE : debtsL (debtE xs e) (l.drop (i + 1)) = debtsL ds l := hE
     have hel := debtE_len xs e
     have hgo : ∀ ys, debtE xs e = ys → go (ys.map triR, (i : Int) + 1) = some (outD (some (debtsL ds l))) := fun ys hy => by
      subst hy
      exact ih _ ⟨i + 1, _, rfl, by omega, hE, by omega⟩ (by first | omega | (simp only; omega))
     have hm : -1000000000000 ≤ e.m ∧ e.m ≤ 1000000000000 := by
      by_cases h : e.k = 1 ∨ e.k = 4
      ·have := hf.bare h; omega
      ·have := hf.kind; have := hf.full (by omega); omega
     unfold merge_Debts_5
     rw [g0]
     refine cF (fun h1 => merge_ren n go (evL l) i e.a e.b _ xs xs rfl (by omega) (by omega) (by omega) g2 g3 (hgo _ (by unfold debtE; rw [if_pos h1])) (by omega)) (fun h1 => ?_)
     unfold merge_Debts_9
     rw [g0, g2, g3, g7]
     have happ : ∀ x : Dt, xs.map triR ++ [[AV.int x.1, AV.int x.2.1, AV.int x.2.2]] = (xs ++ [x]).map triR := fun x => by rw [List.map_append]; rfl
     have hlm : ((xs.map triR).length : Int) = (xs.length : Int) := by rw [List.length_map]
     refine cF (fun h2 => cF (fun hp => gN (by omega) (gO (by omega) (by omega) ?_)) (fun hp => cF (fun hq => gO (by omega) (by omega) (gN (by omega) (gO (by omega) (by omega) ?_))) (fun hq => gO (by omega) (by omega) (hgo _ ?_)))) (fun h2 => ?_)
     ·rw [happ (e.a, e.b, e.m)]
      exact hgo _ (by unfold debtE owed; rw [if_neg h1, if_pos h2, if_pos hp])
     ·rw [happ (e.b, e.a, 0 - e.m)]
      exact hgo _ (by unfold debtE owed; rw [if_neg h1, if_pos h2, if_neg hp, if_pos hq])
     ·unfold debtE owed; rw [if_neg h1, if_pos h2, if_neg hp, if_neg hq]
     unfold merge_Debts_10
     rw [g0]
     refine cF (fun h3 => ?_) (fun h3 => gO (by omega) (by omega) (hgo _ (by unfold debtE; rw [if_neg h1, if_neg h2, if_neg h3])))
     unfold merge_Debts_11
     rw [g2, g3, g7]
     refine cF (fun hp => gN (by omega) ?_) (fun hp => ?_)
     ·rw [happ (e.a, e.b, e.m)]
      exact merge_ren2 n go (evL l) i e.a e.c _ _ xs (by simp) (by simp; omega) (by omega) (by omega) g2 g4 (hgo _ (by unfold debtE owed; rw [if_neg h1, if_neg h2, if_pos h3, if_pos hp])) (by omega)
     ·unfold merge_Debts_15
      rw [g2, g3, g7]
      refine cF (fun hq => gO (by omega) (by omega) (gN (by omega) ?_)) (fun hq => ?_)
      ·rw [happ (e.b, e.a, 0 - e.m)]
       exact merge_ren2 n go (evL l) i e.a e.c _ _ xs (by simp) (by simp; omega) (by omega) (by omega) g2 g4 (hgo _ (by unfold debtE owed; rw [if_neg h1, if_neg h2, if_pos h3, if_neg hp, if_pos hq])) (by omega)
      ·exact merge_ren3 n go (evL l) i e.a e.c _ xs (by omega) (by omega) (by omega) g2 g4 (hgo _ (by unfold debtE owed; rw [if_neg h1, if_neg h2, if_pos h3, if_neg hp, if_neg hq])) (by omega)
    ·rw [List.drop_of_length_le (by omega)] at hE
     rw [← hE]; rfl
end Go.Proofs.YtgckmifmjiklmaaGreat
set_option maxRecDepth 100000
namespace Go.Proofs.YtgckmifmjiklmaaGreat
open Go Go.Sx
noncomputable section
def consR3 : List Nat := [11, 12, 13, 14, 15, 16, 17, 18, 19, 20, 21, 22, 23, 24, 25, 26, 27, 28, 29, 30, 32, 33, 34, 35, 36, 37, 38, 40, 46, 47, 51, 52, 54, 55, 56, 57, 58, 59, 61, 62, 63, 64, 66, 67, 69, 80, 83, 87, 90, 91, 92, 95, 96, 115, 116, 121, 122, 127, 128, 164, 165, 166, 197, 198, 201, 204, 205, 216, 229, 1000012, 1000056, 1000083, 1000197, 1000216, 1000229]
abbrev ref42_renamed_a := Lv
abbrev ref42_renamed_s0 := Lv × Int
def ref42_renamed_2 (n : Nat) (go0 : ref42_renamed_s0 → Option ref42_renamed_a) (v0 : Lv) (v1 v2 : Int) (v3 : Lv) (v4 : Int) : Option ref42_renamed_a :=
 (bif (decide (v4 < (v0.length : Int))) then bif (decide (0 ≤ v4)) then (bif (decide ((cI v0 v4 0) = v1)) then (bif (decide ((cI v0 v4 1) = v1)) then bif ((decide ((-9223372036854775808) ≤ (v4 + 1))) && (decide ((v4 + 1) ≤ 9223372036854775807))) then go0 (v3, (v4 + 1)) else none
 else (bif (!(decide (v2 = (cI v0 v4 1)))) then bif (decide ((((v3.length : Int) + 1) * 24) ≤ 140737488355328)) then bif ((decide ((-9223372036854775808) ≤ (v4 + 1))) && (decide ((v4 + 1) ≤ 9223372036854775807))) then go0 ((v3 ++ [[(AV.int v2), (AV.int (cI v0 v4 1)), (AV.int (cI v0 v4 2))]]), (v4 + 1)) else none else none
 else bif ((decide ((-9223372036854775808) ≤ (v4 + 1))) && (decide ((v4 + 1) ≤ 9223372036854775807))) then go0 (v3, (v4 + 1)) else none))
 else (bif (decide ((cI v0 v4 1) = v1)) then (bif (!(decide ((cI v0 v4 0) = v2))) then bif (decide ((((v3.length : Int) + 1) * 24) ≤ 140737488355328)) then bif ((decide ((-9223372036854775808) ≤ (v4 + 1))) && (decide ((v4 + 1) ≤ 9223372036854775807))) then go0 ((v3 ++ [[(AV.int (cI v0 v4 0)), (AV.int v2), (AV.int (cI v0 v4 2))]]), (v4 + 1)) else none else none
 else bif ((decide ((-9223372036854775808) ≤ (v4 + 1))) && (decide ((v4 + 1) ≤ 9223372036854775807))) then go0 (v3, (v4 + 1)) else none)
 else (bif (!(decide ((cI v0 v4 0) = (cI v0 v4 1)))) then bif (decide ((((v3.length : Int) + 1) * 24) ≤ 140737488355328)) then bif ((decide ((-9223372036854775808) ≤ (v4 + 1))) && (decide ((v4 + 1) ≤ 9223372036854775807))) then go0 ((v3 ++ [[(AV.int (cI v0 v4 0)), (AV.int (cI v0 v4 1)), (AV.int (cI v0 v4 2))]]), (v4 + 1)) else none else none
 else bif ((decide ((-9223372036854775808) ≤ (v4 + 1))) && (decide ((v4 + 1) ≤ 9223372036854775807))) then go0 (v3, (v4 + 1)) else none))) else none
 else some v3)
def ref42_renamed_1 (n : Nat) (v0 : Lv) (v1 v2 : Int) : Option ref42_renamed_a :=
 (iterF (fun go0 s => ref42_renamed_2 n go0 v0 v1 v2 s.1 s.2) n ((([] : Lv), 0) : ref42_renamed_s0))
def ref42_renamed (n : Nat) (v0 : Lv) (v1 v2 : Int) : Option ref42_renamed_a := ref42_renamed_1 n v0 v1 v2
def ref42_renamed_t : FnT := ⟨[(false, [(.sl (.cons .int (.cons .int (.cons .int .nil))))]), (false, [.int]), (false, [.int])], (.row 114 (.cons .int (.cons .int (.cons .int .nil)))), fun n (s : Lv × Int × Int) => ref42_renamed n s.1 s.2.1 s.2.2⟩
theorem ref42_renamed_ok : ref42_renamed_t.ok Tryz.prog 90 := FnT.ok_of (cfg := ⟨[((90, 3, 0), .inv [(.tmprow 7 114 (.cons .int (.cons .int (.cons .int .nil)))), (.tmp 8 .int)])], consR3, [], []⟩) (tab := ref42_At_T) (mt := mt0) pfit ref42_At_T_ok mt0_ok (fun s fn hf => by rw [Tryz.func90] at hf; cases hf; kernel_rfl) (fun n s => by kernel_rfl)
def ref42_renamed_T : Tab := (90, ref42_renamed_t) :: ref42_At_T
theorem ref42_renamed_T_ok : ref42_renamed_T.ok Tryz.prog := Tab.ok_cons ref42_renamed_ok ref42_At_T_ok
abbrev ref42_owed_a := Lv
def ref42_owed_1 (n : Nat) (v0 : Lv) (v1 v2 v3 : Int) : Option ref42_owed_a :=
 bif (decide (((v0.length : Int) * 24) ≤ 140737488355328)) then (bif (decide (0 < v3)) then bif (decide ((((v0.length : Int) + 1) * 24) ≤ 140737488355328)) then (bif (decide (v3 < 0)) then bif ((decide ((-9223372036854775808) ≤ (0 - v3))) && (decide ((0 - v3) ≤ 9223372036854775807))) then bif (decide (((((v0.length : Int) + 1) + 1) * 24) ≤ 140737488355328)) then some ((v0 ++ [[(AV.int v1), (AV.int v2), (AV.int v3)]]) ++ [[(AV.int v2), (AV.int v1), (AV.int (0 - v3))]]) else none else none
 else some (v0 ++ [[(AV.int v1), (AV.int v2), (AV.int v3)]])) else none
 else (bif (decide (v3 < 0)) then bif ((decide ((-9223372036854775808) ≤ (0 - v3))) && (decide ((0 - v3) ≤ 9223372036854775807))) then bif (decide ((((v0.length : Int) + 1) * 24) ≤ 140737488355328)) then some (v0 ++ [[(AV.int v2), (AV.int v1), (AV.int (0 - v3))]]) else none else none
 else some v0)) else none
def ref42_owed (n : Nat) (v0 : Lv) (v1 v2 v3 : Int) : Option ref42_owed_a := ref42_owed_1 n v0 v1 v2 v3
def ref42_owed_t : FnT := ⟨[(false, [(.sl (.cons .int (.cons .int (.cons .int .nil))))]), (false, [.int]), (false, [.int]), (false, [.int])], (.row 114 (.cons .int (.cons .int (.cons .int .nil)))), fun n (s : Lv × Int × Int × Int) => ref42_owed n s.1 s.2.1 s.2.2.1 s.2.2.2⟩
theorem ref42_owed_ok : ref42_owed_t.ok Tryz.prog 91 := FnT.ok_of (cfg := ⟨[], consR3, [], []⟩) (tab := ref42_renamed_T) (mt := mt0) pfit ref42_renamed_T_ok mt0_ok (fun s fn hf => by rw [Tryz.func91] at hf; cases hf; kernel_rfl) (fun n s => by kernel_rfl)
def ref42_owed_T : Tab := (91, ref42_owed_t) :: ref42_renamed_T
theorem ref42_owed_T_ok : ref42_owed_T.ok Tryz.prog := Tab.ok_cons ref42_owed_ok ref42_renamed_T_ok
abbrev ref42_Debts_a := Lv × Int
abbrev ref42_Debts_s0 := Lv × Int
abbrev ref42_Debts_s1 := Int
def ref42_Debts_3 (n : Nat) (go0 : ref42_Debts_s0 → Option ref42_Debts_a) (v5 v15 : Lv) (v16 : Int) : Option ref42_Debts_a :=
 (bif (decide (v16 < (v5.length : Int))) then bif (decide (0 ≤ v16)) then (bif (decide ((cI v5 v16 0) = 1)) then (ref42_renamed n v15 (cI v5 v16 2) (cI v5 v16 3)).bind fun y17 =>
 bif ((decide ((-9223372036854775808) ≤ (v16 + 1))) && (decide ((v16 + 1) ≤ 9223372036854775807))) then go0 (y17, (v16 + 1)) else none
 else (bif (decide ((cI v5 v16 0) = 2)) then (ref42_owed n v15 (cI v5 v16 2) (cI v5 v16 3) (cI v5 v16 7)).bind fun y17 =>
 bif ((decide ((-9223372036854775808) ≤ (v16 + 1))) && (decide ((v16 + 1) ≤ 9223372036854775807))) then go0 (y17, (v16 + 1)) else none
 else (bif (decide ((cI v5 v16 0) = 3)) then (ref42_owed n v15 (cI v5 v16 2) (cI v5 v16 3) (cI v5 v16 7)).bind fun y17 =>
 (ref42_renamed n y17 (cI v5 v16 2) (cI v5 v16 4)).bind fun y18 =>
 bif ((decide ((-9223372036854775808) ≤ (v16 + 1))) && (decide ((v16 + 1) ≤ 9223372036854775807))) then go0 (y18, (v16 + 1)) else none
 else bif ((decide ((-9223372036854775808) ≤ (v16 + 1))) && (decide ((v16 + 1) ≤ 9223372036854775807))) then go0 (v15, (v16 + 1)) else none))) else none
 else some (v15, 0))
def ref42_Debts_2 (n : Nat) (go0 : ref42_Debts_s1 → Option ref42_Debts_a) (v5 v6 : Lv) (v14 : Int) : Option ref42_Debts_a :=
 (bif (decide (v14 < (v6.length : Int))) then bif (decide (0 ≤ v14)) then (bif (decide (0 ≤ (cI v6 v14 0))) then (bif (!(decide ((cI v6 v14 0) ≤ 7))) then some (([] : Lv), 420)
 else (bif (decide (0 ≤ (cI v6 v14 1))) then (bif (!(decide ((cI v6 v14 1) ≤ 7))) then some (([] : Lv), 420)
 else bif ((decide ((-9223372036854775808) ≤ (v14 + 1))) && (decide ((v14 + 1) ≤ 9223372036854775807))) then go0 (v14 + 1) else none)
 else some (([] : Lv), 420)))
 else some (([] : Lv), 420)) else none
 else bif (decide (((v6.length : Int) * 24) ≤ 140737488355328)) then (iterF (fun go0 s => ref42_Debts_3 n go0 v5 s.1 s.2) n ((v6, 0) : ref42_Debts_s0)) else none)
def ref42_Debts_1 (n : Nat) (v0 v1 : Int) (v2 v3 v4 v5 v6 : Lv) : Option ref42_Debts_a :=
 (ref42_Run n v0 v1 v2 v3 v4 v5).bind fun y7 =>
 (bif (!(decide (y7.2.2.2.2.2.2 = 0))) then some (([] : Lv), 420)
 else (iterF (fun go0 s => ref42_Debts_2 n go0 v5 v6 s) n (0 : ref42_Debts_s1)))
def ref42_Debts (n : Nat) (v0 v1 : Int) (v2 v3 v4 v5 v6 : Lv) : Option ref42_Debts_a := ref42_Debts_1 n v0 v1 v2 v3 v4 v5 v6
def ref42_Debts_t : FnT := ⟨[(true, [.int, .int, (.sl (.cons .int (.cons .int (.cons .int .nil)))), (.sl (.cons .int .nil)), (.sl (.cons .int .nil))]), (false, [(.sl (.cons .int (.cons .int (.cons .int (.cons .int (.cons .int (.cons .int (.cons .int (.cons .int .nil)))))))))]), (false, [(.sl (.cons .int (.cons .int (.cons .int .nil))))])], (.tup (.cons (.row 114 (.cons .int (.cons .int (.cons .int .nil)))) (.cons .i .nil))), fun n (s : Int × Int × Lv × Lv × Lv × Lv × Lv) => ref42_Debts n s.1 s.2.1 s.2.2.1 s.2.2.2.1 s.2.2.2.2.1 s.2.2.2.2.2.1 s.2.2.2.2.2.2⟩
theorem ref42_Debts_ok : ref42_Debts_t.ok Tryz.prog 27 := FnT.ok_of (cfg := ⟨[((27, 5, 6), .inv [(.tmp 11 .int)]), ((27, 11, 9), .inv [(.tmprow 12 114 (.cons .int (.cons .int (.cons .int .nil)))), (.tmp 13 .int)])], consR3, [], []⟩) (tab := ref42_owed_T) (mt := mt0) pfit ref42_owed_T_ok mt0_ok (fun s fn hf => by rw [Tryz.func27] at hf; cases hf; kernel_rfl) (fun n s => by kernel_rfl)
def ref42_Debts_T : Tab := (27, ref42_Debts_t) :: ref42_owed_T
theorem ref42_Debts_T_ok : ref42_Debts_T.ok Tryz.prog := Tab.ok_cons ref42_Debts_ok ref42_owed_T_ok
abbrev ref42_SameDebts_a := Bool
abbrev ref42_SameDebts_s0 := Int
def ref42_SameDebts_2 (n : Nat) (go0 : ref42_SameDebts_s0 → Option ref42_SameDebts_a) (v0 v1 : Lv) (v2 : Int) : Option ref42_SameDebts_a :=
 (bif (decide (v2 < (v0.length : Int))) then bif (decide (0 ≤ v2)) then bif (decide (v2 < (v1.length : Int))) then (bif (!((decide ((cI v0 v2 0) = (cI v1 v2 0))) && ((decide ((cI v0 v2 1) = (cI v1 v2 1))) && (decide ((cI v0 v2 2) = (cI v1 v2 2)))))) then some false
 else bif ((decide ((-9223372036854775808) ≤ (v2 + 1))) && (decide ((v2 + 1) ≤ 9223372036854775807))) then go0 (v2 + 1) else none) else none else none
 else some true)
def ref42_SameDebts_1 (n : Nat) (v0 v1 : Lv) : Option ref42_SameDebts_a :=
 (bif (!(decide ((v0.length : Int) = (v1.length : Int)))) then some false
 else (iterF (fun go0 s => ref42_SameDebts_2 n go0 v0 v1 s) n (0 : ref42_SameDebts_s0)))
def ref42_SameDebts (n : Nat) (v0 v1 : Lv) : Option ref42_SameDebts_a := ref42_SameDebts_1 n v0 v1
def ref42_SameDebts_t : FnT := ⟨[(false, [(.sl (.cons .int (.cons .int (.cons .int .nil))))]), (false, [(.sl (.cons .int (.cons .int (.cons .int .nil))))])], .b, fun n (s : Lv × Lv) => ref42_SameDebts n s.1 s.2⟩
theorem ref42_SameDebts_ok : ref42_SameDebts_t.ok Tryz.prog 28 := FnT.ok_of (cfg := ⟨[((28, 4, 0), .inv [(.tmp 5 .int)])], consR3, [], []⟩) (tab := ref42_Debts_T) (mt := mt0) pfit ref42_Debts_T_ok mt0_ok (fun s fn hf => by rw [Tryz.func28] at hf; cases hf; kernel_rfl) (fun n s => by kernel_rfl)
def ref42_SameDebts_T : Tab := (28, ref42_SameDebts_t) :: ref42_Debts_T
theorem ref42_SameDebts_T_ok : ref42_SameDebts_T.ok Tryz.prog := Tab.ok_cons ref42_SameDebts_ok ref42_Debts_T_ok
end
end Go.Proofs.YtgckmifmjiklmaaGreat
set_option maxRecDepth 100000
namespace Go.Proofs.YtgckmifmjiklmaaGreat
open Go Go.Sx Go.Dial.Blk Go.Dial.Mrg
theorem dapp (l : List Dt) (x : Dt) : (l ++ [x]).map triR = l.map triR ++ [[AV.int x.1, AV.int x.2.1, AV.int x.2.2]] := List.map_append
theorem ref42_renamed_v (n : Nat) (l : List Dt) (hl : l.length ≤ 1000000) (a c : Int) (hn : 1000001 < n) : ref42_renamed n (l.map triR) a c = some ((Dial.Mrg.renamed l a c).map triR) := by
 unfold ref42_renamed ref42_renamed_1
 refine iterF_ind (fun s => ∃ i : Nat, s = ((Dial.Mrg.renamed (l.take i) a c).map triR, (i : Int)) ∧ i ≤ l.length) (fun s => l.length - s.2.toNat) _ ?_ n _ ⟨0, rfl, by omega⟩ (by first | omega | (simp only; omega))
 rintro _ go ⟨i, rfl, hi⟩ ih
 simp only at ih ⊢
 unfold ref42_renamed_2
 have hlm : ((l.map triR).length : Int) = (l.length : Int) := by rw [List.length_map]
 rw [hlm]
 refine cF (fun hlt => gN (by omega) ?_) (fun hlt => ?_)
 ·obtain ⟨d, hd⟩ := get_lt (l := l) (i := i) (by omega)
  obtain ⟨g0, g1, g2⟩ := tcell' hd
  have hrl := renamed_len (l.take i) a c
  rw [List.length_take] at hrl
  have hgo := ih ((Dial.Mrg.renamed (l.take (i + 1)) a c).map triR, (i : Int) + 1) ⟨i + 1, rfl, by omega⟩ (by first | omega | (simp only; omega))
  have hsn : Dial.Mrg.renamed (l.take (i + 1)) a c = Dial.Mrg.renamed (l.take i) a c ++ [ren a c d].filter real := by unfold Dial.Mrg.renamed; rw [take_snoc hd, List.map_append, List.filter_append]; rfl
  rw [hsn] at hgo
  have hyes : real (ren a c d) = true → [ren a c d].filter real = [ren a c d] := fun h => by simp [h]
  have hnot : real (ren a c d) = false → [ren a c d].filter real = [] := fun h => by simp [h]
  have keep : ∀ x : Dt, ren a c d = x → x.1 ≠ x.2.1 → go ((Dial.Mrg.renamed (l.take i) a c).map triR ++ [[AV.int x.1, AV.int x.2.1, AV.int x.2.2]], (i : Int) + 1) = some ((Dial.Mrg.renamed l a c).map triR) := fun x hx hne => by
   have hr : real (ren a c d) = true := by rw [hx]; unfold real; simp [hne]
   rw [hyes hr, hx, dapp] at hgo
   exact hgo
  have drop : (ren a c d).1 = (ren a c d).2.1 → go ((Dial.Mrg.renamed (l.take i) a c).map triR, (i : Int) + 1) = some ((Dial.Mrg.renamed l a c).map triR) := fun he => by
   have hr : real (ren a c d) = false := by unfold real; simp [he]
   rw [hnot hr, List.append_nil] at hgo
   exact hgo
  have hsz : (((Dial.Mrg.renamed (l.take i) a c).map triR).length : Int) ≤ 1000000 := by rw [List.length_map]; omega
  rw [g0, g1, g2]
  refine cF (fun h1 => cF (fun h2 => gO (by omega) (by omega) (drop ?_)) (fun h2 => ?_)) (fun h1 => cF (fun h2 => ?_) (fun h2 => ?_))
  ·unfold ren; simp [h1, h2]
  ·have hx : ren a c d = (c, d.2.1, d.2.2) := by unfold ren; simp [h1, h2]
   by_cases hne : c = d.2.1
   ·rw [decide_eq_true hne, Bool.not_true, cond_false]
    exact gO (by omega) (by omega) (drop (by rw [hx]; exact hne))
   ·rw [decide_eq_false hne, Bool.not_false, cond_true]
    exact gN (by omega) (gO (by omega) (by omega) (keep _ hx hne))
  ·have hx : ren a c d = (d.1, c, d.2.2) := by unfold ren; simp [h1, h2]
   by_cases hne : d.1 = c
   ·rw [decide_eq_true hne, Bool.not_true, cond_false]
    exact gO (by omega) (by omega) (drop (by rw [hx]; exact hne))
   ·rw [decide_eq_false hne, Bool.not_false, cond_true]
    exact gN (by omega) (gO (by omega) (by omega) (keep _ hx hne))
  ·have hx : ren a c d = d := by unfold ren; rw [if_neg h1, if_neg h2]
   by_cases hne : d.1 = d.2.1
   ·rw [decide_eq_true hne, Bool.not_true, cond_false]
    exact gO (by omega) (by omega) (drop (by rw [hx]; exact hne))
   ·rw [decide_eq_false hne, Bool.not_false, cond_true]
    exact gN (by omega) (gO (by omega) (by omega) (keep _ hx hne))
 ·rw [List.take_of_length_le (by omega)]
theorem ref42_owed_v (n : Nat) (l : List Dt) (hl : l.length ≤ 1000000) (a b m : Int) (m0 : -1000000000000 ≤ m) (m1 : m ≤ 1000000000000) : ref42_owed n (l.map triR) a b m = some ((Dial.Mrg.owed l a b m).map triR) := by
 unfold ref42_owed ref42_owed_1 Dial.Mrg.owed
 have hlm : ((l.map triR).length : Int) = (l.length : Int) := by rw [List.length_map]
 rw [hlm]
 refine gN (by omega) (cF (fun hp => gN (by omega) (cF (fun h => absurd h (by omega)) (fun _ => ?_))) (fun hp => cF (fun hq => gO (by omega) (by omega) (gN (by omega) ?_)) (fun hq => ?_)))
 ·rw [if_pos hp, dapp]
 ·rw [if_neg hp, if_pos hq, dapp]
 ·rw [if_neg hp, if_neg hq]
theorem ref42_Debts_v (n : Nat) (w : Wd) (l : List Ev) (hl : l.length ≤ 1000000) (ds : List Dt) (hdl : ds.length ≤ 1000) (hn : 1000001 < n) : ref42_Debts n w.al w.ev (bL w.bl) (iL w.ba) (iL w.le) (evL l) (ds.map triR) = some (outD (debtsW w l ds)) := by
 unfold ref42_Debts ref42_Debts_1
 rw [ref42_Run_v n w l hl hn, Option.bind_some]
 cases hr : runW w l with
 | mk o j =>
  cases o with
  | none =>
   refine cN (fun h => absurd h (by show ¬ (420 : Int) = 0; decide)) (fun _ => noD fun p => ?_)
   rw [runW_good p.g] at hr; cases hr
  | some v =>
   have hg := runW_some hr
   refine cN (fun _ => ?_) (fun h => absurd rfl h)
   refine iterF_ind (fun s => ∃ i : Nat, s = (i : Int) ∧ i ≤ ds.length ∧ ∀ (k : Nat) d, k < i → ds[k]? = some d → DC d) (fun s => ds.length - s.toNat) _ ?_ n _ ⟨0, rfl, by omega, fun k d h => by omega⟩ (by first | omega | (simp only; omega))
   rintro _ go ⟨i, rfl, hi, hall⟩ ih
   unfold ref42_Debts_2
   have hlm : ((ds.map triR).length : Int) = (ds.length : Int) := by rw [List.length_map]
   rw [hlm]
   refine cF (fun hlt => gN (by omega) ?_) (fun hlt => gN (by omega) ?_)
   ·obtain ⟨d, hd⟩ := get_lt (l := ds) (i := i) (by omega)
    have hdm := List.mem_of_getElem? hd
    obtain ⟨g0, g1, g2⟩ := tcell' hd
    rw [g0, g1]
    refine cF (fun a0 => cN (fun a1 => cF (fun b0 => cN (fun b1 => gO (by omega) (by omega) (ih _ ⟨i + 1, rfl, by omega, fun k x hk hx => ?_⟩ (by first | omega | (simp only; omega)))) (fun h => noD fun p => h (p.c d hdm).2.2)) (fun h => noD fun p => h (p.c d hdm).2.1)) (fun h => noD fun p => h (p.c d hdm).1.2)) (fun h => noD fun p => h (p.c d hdm).1.1)
    by_cases hki : k < i
    ·exact hall k x hki hx
    ·have : k = i := by omega
     subst this; rw [hd] at hx; cases hx; exact ⟨⟨a0, a1⟩, b0, b1⟩
   ·have hDC : ∀ d ∈ ds, DC d := fun d hd => by
     obtain ⟨k, hk⟩ := List.getElem?_of_mem hd
     exact hall k d (by have := (List.getElem?_eq_some_iff.1 hk).1; omega) hk
    have hok : debtsW w l ds = some (debtsL ds l) := if_pos ⟨hg, hDC⟩
    rw [hok]
    clear ih
    have h20 := hg.few
    refine iterF_ind (fun s => ∃ (i : Nat) (xs : List Dt), s = (xs.map triR, (i : Int)) ∧ i ≤ l.length ∧ debtsL xs (l.drop i) = debtsL ds l ∧ xs.length ≤ ds.length + i) (fun s => l.length - s.2.toNat) _ ?_ n _ ⟨0, ds, rfl, by omega, rfl, by omega⟩ (by first | omega | (simp only; omega))
    rintro _ go ⟨i, xs, rfl, hi, hE, hxl⟩ ih
    simp only at ih ⊢
    unfold ref42_Debts_3
    rw [elen]
    refine cF (fun hlt => gN (by omega) ?_) (fun hlt => ?_)
    ·obtain ⟨e, he⟩ := get_lt (l := l) (i := i) (by omega)
     obtain ⟨g0, g1, g2, g3, g4, g5, g6, g7⟩ := ecell he
     have hf := hg.p.forms e (List.mem_of_getElem? he)
     rw [bdrop he] at hE
     have hE : debtsL (debtE xs e) (l.drop (i + 1)) = debtsL ds l := hE
     have hel := debtE_len xs e
     have hol := owed_len xs e.a e.b e.m
     have hgo : ∀ ys, debtE xs e = ys → go (ys.map triR, (i : Int) + 1) = some (outD (some (debtsL ds l))) := fun ys hy => by
      subst hy
      exact ih _ ⟨i + 1, _, rfl, by omega, hE, by omega⟩ (by first | omega | (simp only; omega))
     have hm : -1000000000000 ≤ e.m ∧ e.m ≤ 1000000000000 := by
      by_cases h : e.k = 1 ∨ e.k = 4
      ·have := hf.bare h; omega
      ·have := hf.kind; have := hf.full (by omega); omega
     rw [g0, g2, g3, g4, g7, ref42_renamed_v n xs (by omega) e.a e.b (by omega), Option.bind_some, ref42_owed_v n xs (by omega) e.a e.b e.m hm.1 hm.2, Option.bind_some]
     refine cF (fun h1 => gO (by omega) (by omega) (hgo _ (by unfold debtE; rw [if_pos h1]))) (fun h1 => cF (fun h2 => gO (by omega) (by omega) (hgo _ (by unfold debtE; rw [if_neg h1, if_pos h2]))) (fun h2 => cF (fun h3 => ?_) (fun h3 => gO (by omega) (by omega) (hgo _ (by unfold debtE; rw [if_neg h1, if_neg h2, if_neg h3])))))
     rw [Option.bind_some, ref42_renamed_v n _ (by omega) e.a e.c (by omega), Option.bind_some]
     exact gO (by omega) (by omega) (hgo _ (by unfold debtE; rw [if_neg h1, if_neg h2, if_pos h3]))
    ·rw [List.drop_of_length_le (by omega)] at hE
     rw [← hE]; rfl
theorem debts_refl (n : Nat) (l : List Dt) (hl : l.length ≤ 1000000) (hn : l.length < n) : ref42_SameDebts n (l.map triR) (l.map triR) = some true := by
 unfold ref42_SameDebts ref42_SameDebts_1
 refine cN (fun _ => ?_) (fun h => absurd rfl h)
 refine iterF_ind (fun s => ∃ i : Nat, s = (i : Int) ∧ i ≤ l.length) (fun s => l.length - s.toNat) _ ?_ n _ ⟨0, rfl, by omega⟩ (by simp; omega)
 rintro _ go ⟨i, rfl, hi⟩ ih
 unfold ref42_SameDebts_2
 refine cF (fun h => gN (by omega) (gN h ?_)) (fun _ => rfl)
 rw [List.length_map] at h
 have hz : ∀ a : Int, decide (a = a) = true := fun a => decide_eq_true rfl
 rw [hz, hz, hz, Bool.and_true, Bool.and_true, Bool.not_true, cond_false]
 exact gO (by omega) (by omega) (ih _ ⟨i + 1, rfl, by omega⟩ (by first | omega | (simp only; omega)))
end Go.Proofs.YtgckmifmjiklmaaGreat
set_option maxRecDepth 100000
namespace Go.Proofs.YtgckmifmjiklmaaGreat
open Go Go.Sx
noncomputable section
def consR4 : List Nat := [11, 12, 13, 14, 15, 16, 17, 18, 19, 20, 21, 22, 23, 24, 25, 26, 27, 28, 29, 30, 32, 33, 34, 35, 36, 37, 38, 40, 46, 47, 51, 52, 54, 55, 56, 57, 58, 59, 61, 62, 63, 64, 66, 67, 69, 80, 83, 87, 90, 91, 92, 95, 96, 115, 116, 121, 122, 127, 128, 164, 165, 166, 197, 198, 201, 204, 205, 216, 229, 1000012, 1000056, 1000083, 1000197, 1000216, 1000229]
abbrev ref13_Bent_a := Lv
abbrev ref13_Bent_s0 := Lv × Int
def ref13_Bent_2 (n : Nat) (go0 : ref13_Bent_s0 → Option ref13_Bent_a) (v2 : Int) (v6 : Lv) (v7 : Int) : Option ref13_Bent_a :=
 (ref13_pick n v2 4).bind fun y8 =>
 bif ((decide ((-9223372036854775808) ≤ (39 + y8))) && (decide ((39 + y8) ≤ 9223372036854775807))) then (bif (decide (v7 < (39 + y8))) then bif ((decide ((-9223372036854775808) ≤ (2 * v7))) && (decide ((2 * v7) ≤ 9223372036854775807))) then bif ((decide ((-9223372036854775808) ≤ ((2 * v7) + 1))) && (decide (((2 * v7) + 1) ≤ 9223372036854775807))) then bif (decide ((((v6.length : Int) + 1) * 24) ≤ 140737488355328)) then bif ((decide ((-9223372036854775808) ≤ (v7 + 1))) && (decide ((v7 + 1) ≤ 9223372036854775807))) then go0 ((v6 ++ [[(AV.int (2 * v7)), (AV.int ((2 * v7) + 1)), (AV.int 1)]]), (v7 + 1)) else none else none else none else none
 else some v6) else none
def ref13_Bent_1 (n : Nat) (v0 : Lv) (v1 v2 v3 : Int) : Option ref13_Bent_a :=
 bif (decide (((v0.length : Int) * 24) ≤ 140737488355328)) then (bif (decide ((v0.length : Int) = 0)) then some (([] : Lv) ++ [[(AV.int v2), (AV.int v3), (AV.int 0)]])
 else (ref13_pick n v3 (v0.length : Int)).bind fun y4 =>
 (ref13_pick n v1 6).bind fun y5 =>
 (bif (decide (y5 = 0)) then bif (decide (0 ≤ y4)) then bif (decide (y4 < (v0.length : Int))) then some (List.modify v0 (y4).toNat (fun r => r.set 0 (AV.int v2))) else none else none
 else (bif (decide (y5 = 1)) then bif (decide (0 ≤ y4)) then bif (decide (y4 < (v0.length : Int))) then some (List.modify v0 (y4).toNat (fun r => r.set 1 (AV.int v2))) else none else none
 else (bif (decide (y5 = 2)) then bif (decide (0 ≤ y4)) then bif (decide (y4 < (v0.length : Int))) then some (List.modify v0 (y4).toNat (fun r => r.set 2 (AV.int v2))) else none else none
 else (bif (decide (y5 = 3)) then bif (decide (0 ≤ y4)) then bif (decide (y4 < (v0.length : Int))) then bif (decide ((((v0.length : Int) + 1) * 24) ≤ 140737488355328)) then some (v0 ++ [[(AV.int (cI v0 y4 0)), (AV.int (cI v0 y4 1)), (AV.int (cI v0 y4 2))]]) else none else none else none
 else (bif (decide (y5 = 4)) then bif (decide (0 ≤ y4)) then bif (decide (y4 < (v0.length : Int))) then bif (decide (0 < (v0.length : Int))) then some (List.modify (List.modify (List.modify (List.modify (List.modify (List.modify v0 ((0 : Int)).toNat (fun r => r.set 0 (AV.int (cI v0 y4 0)))) ((0 : Int)).toNat (fun r => r.set 1 (AV.int (cI v0 y4 1)))) ((0 : Int)).toNat (fun r => r.set 2 (AV.int (cI v0 y4 2)))) (y4).toNat (fun r => r.set 0 (AV.int (cI v0 0 0)))) (y4).toNat (fun r => r.set 1 (AV.int (cI v0 0 1)))) (y4).toNat (fun r => r.set 2 (AV.int (cI v0 0 2)))) else none else none else none
 else (iterF (fun go0 s => ref13_Bent_2 n go0 v2 s.1 s.2) n ((([] : Lv), 0) : ref13_Bent_s0)))))))) else none
def ref13_Bent (n : Nat) (v0 : Lv) (v1 v2 v3 : Int) : Option ref13_Bent_a := ref13_Bent_1 n v0 v1 v2 v3
def ref13_Bent_t : FnT := ⟨[(false, [(.sl (.cons .int (.cons .int (.cons .int .nil))))]), (false, [.int]), (false, [.int]), (false, [.int])], (.row 116 (.cons .int (.cons .int (.cons .int .nil)))), fun n (s : Lv × Int × Int × Int) => ref13_Bent n s.1 s.2.1 s.2.2.1 s.2.2.2⟩
theorem ref13_Bent_ok : ref13_Bent_t.ok Tryz.prog 59 := FnT.ok_of (cfg := ⟨[((59, 8, 2), .inv [(.tmprow 9 116 (.cons .int (.cons .int (.cons .int .nil)))), (.tmp 11 .int)])], consR4, [], []⟩) (tab := ref42_SameDebts_T) (mt := mt0) pfit ref42_SameDebts_T_ok mt0_ok (fun s fn hf => by rw [Tryz.func59] at hf; cases hf; kernel_rfl) (fun n s => by kernel_rfl)
def ref13_Bent_T : Tab := (59, ref13_Bent_t) :: ref42_SameDebts_T
theorem ref13_Bent_T_ok : ref13_Bent_T.ok Tryz.prog := Tab.ok_cons ref13_Bent_ok ref42_SameDebts_T_ok
abbrev ref42_Bent_a := Int × Int × Lv × Lv × Lv × Lv
abbrev ref42_Bent_s0 := Lv
def ref42_Bent_4 (n : Nat) (go0 : ref42_Bent_s0 → Option ref42_Bent_a) (v9 v10 : Int) (v11 v12 v13 v15 : Lv) : Option ref42_Bent_a :=
 (bif (decide ((v15.length : Int) < 21)) then bif (decide ((((v15.length : Int) + 1) * 64) ≤ 140737488355328)) then go0 (v15 ++ [[(AV.int 4), (AV.int 10000000), (AV.int 0), (AV.int 0), (AV.int 0), (AV.int 0), (AV.int 0), (AV.int 0)]]) else none
 else some (v9, v10, v11, v12, v13, v15))
def ref42_Bent_3 (n : Nat) (v5 : Lv) (v6 v7 v8 v9 v10 : Int) (v11 v12 v13 : Lv) (v14 : Int) : Option ref42_Bent_a :=
 (bif (decide (0 < (v5.length : Int))) then (ref42_pick n v8 (v5.length : Int)).bind fun y15 =>
 bif (decide (0 ≤ y15)) then bif (decide (y15 < (v5.length : Int))) then (bif (decide (v14 = 6)) then some (v9, v10, v11, v12, v13, (List.modify v5 (y15).toNat (fun r => r.set 0 (AV.int v7))))
 else (bif (decide (v14 = 7)) then some (v9, v10, v11, v12, v13, (List.modify v5 (y15).toNat (fun r => r.set 1 (AV.int v7))))
 else (bif (decide (v14 = 8)) then some (v9, v10, v11, v12, v13, (List.modify v5 (y15).toNat (fun r => r.set 2 (AV.int v7))))
 else (bif (decide (v14 = 9)) then some (v9, v10, v11, v12, v13, (List.modify v5 (y15).toNat (fun r => r.set 3 (AV.int v7))))
 else (bif (decide (v14 = 10)) then some (v9, v10, v11, v12, v13, (List.modify v5 (y15).toNat (fun r => r.set 4 (AV.int v7))))
 else (bif (decide (v14 = 11)) then some (v9, v10, v11, v12, v13, (List.modify v5 (y15).toNat (fun r => r.set 7 (AV.int v7))))
 else some (v9, v10, v11, v12, v13, (List.modify v5 (y15).toNat (fun r => r.set 6 (AV.int v7)))))))))) else none else none
 else (bif (decide (v14 = 0)) then some (v7, v10, v11, v12, v13, v5)
 else (bif (decide (v14 = 1)) then some (v9, v7, v11, v12, v13, v5)
 else (bif (decide (v14 = 2)) then (ref42_pick n v8 8).bind fun y15 =>
 bif (decide (0 ≤ y15)) then bif (decide (y15 < (v12.length : Int))) then some (v9, v10, v11, (List.modify v12 (y15).toNat (fun r => r.set 0 (AV.int v7))), v13, v5) else none else none
 else (bif (decide (v14 = 3)) then (ref42_pick n v8 8).bind fun y15 =>
 bif (decide (0 ≤ y15)) then bif (decide (y15 < (v13.length : Int))) then some (v9, v10, v11, v12, (List.modify v13 (y15).toNat (fun r => r.set 0 (AV.int v7))), v5) else none else none
 else (bif (decide (v14 = 4)) then bif ((decide ((-9223372036854775808) ≤ (Int.tdiv v6 13))) && (decide ((Int.tdiv v6 13) ≤ 9223372036854775807))) then (ref13_Bent n v11 (Int.tdiv v6 13) v7 v8).bind fun y15 =>
 some (v9, v10, y15, v12, v13, v5) else none
 else (iterF (fun go0 s => ref42_Bent_4 n go0 v9 v10 v11 v12 v13 s) n (v5 : ref42_Bent_s0))))))))
abbrev ref42_Bent_5 := @ref42_Bent_4
def ref42_Bent_2 (n : Nat) (v5 : Lv) (v6 v7 v8 v9 v10 : Int) (v11 v12 v13 : Lv) (v14 : Int) : Option ref42_Bent_a :=
 (bif (decide (6 ≤ v14)) then ref42_Bent_3 n v5 v6 v7 v8 v9 v10 v11 v12 v13 v14
 else (bif (decide (v14 = 0)) then some (v7, v10, v11, v12, v13, v5)
 else (bif (decide (v14 = 1)) then some (v9, v7, v11, v12, v13, v5)
 else (bif (decide (v14 = 2)) then (ref42_pick n v8 8).bind fun y15 =>
 bif (decide (0 ≤ y15)) then bif (decide (y15 < (v12.length : Int))) then some (v9, v10, v11, (List.modify v12 (y15).toNat (fun r => r.set 0 (AV.int v7))), v13, v5) else none else none
 else (bif (decide (v14 = 3)) then (ref42_pick n v8 8).bind fun y15 =>
 bif (decide (0 ≤ y15)) then bif (decide (y15 < (v13.length : Int))) then some (v9, v10, v11, v12, (List.modify v13 (y15).toNat (fun r => r.set 0 (AV.int v7))), v5) else none else none
 else (bif (decide (v14 = 4)) then bif ((decide ((-9223372036854775808) ≤ (Int.tdiv v6 13))) && (decide ((Int.tdiv v6 13) ≤ 9223372036854775807))) then (ref13_Bent n v11 (Int.tdiv v6 13) v7 v8).bind fun y15 =>
 some (v9, v10, y15, v12, v13, v5) else none
 else (iterF (fun go0 s => ref42_Bent_5 n go0 v9 v10 v11 v12 v13 s) n (v5 : ref42_Bent_s0))))))))
def ref42_Bent_1 (n : Nat) (v0 v1 : Int) (v2 v3 v4 v5 : Lv) (v6 v7 v8 : Int) : Option ref42_Bent_a :=
 (ref42_Copy n v0 v1 v2 v3 v4).bind fun y9 =>
 bif (decide (((v5.length : Int) * 64) ≤ 140737488355328)) then (ref42_pick n v6 13).bind fun y14 =>
 ref42_Bent_2 n v5 v6 v7 v8 y9.1 y9.2.1 y9.2.2.1 y9.2.2.2.1 y9.2.2.2.2 y14 else none
def ref42_Bent (n : Nat) (v0 v1 : Int) (v2 v3 v4 v5 : Lv) (v6 v7 v8 : Int) : Option ref42_Bent_a := ref42_Bent_1 n v0 v1 v2 v3 v4 v5 v6 v7 v8
def ref42_Bent_t : FnT := ⟨[(true, [.int, .int, (.sl (.cons .int (.cons .int (.cons .int .nil)))), (.sl (.cons .int .nil)), (.sl (.cons .int .nil))]), (false, [(.sl (.cons .int (.cons .int (.cons .int (.cons .int (.cons .int (.cons .int (.cons .int (.cons .int .nil)))))))))]), (false, [.int]), (false, [.int]), (false, [.int])], (.tup (.cons (.agg (.cons .i (.cons .i (.cons (.row 116 (.cons .int (.cons .int (.cons .int .nil)))) (.cons (.row 3 (.cons .int .nil)) (.cons (.row 3 (.cons .int .nil)) .nil)))))) (.cons (.row 41 (.cons .int (.cons .int (.cons .int (.cons .int (.cons .int (.cons .int (.cons .int (.cons .int .nil))))))))) .nil))), fun n (s : Int × Int × Lv × Lv × Lv × Lv × Int × Int × Int) => ref42_Bent n s.1 s.2.1 s.2.2.1 s.2.2.2.1 s.2.2.2.2.1 s.2.2.2.2.2.1 s.2.2.2.2.2.2.1 s.2.2.2.2.2.2.2.1 s.2.2.2.2.2.2.2.2⟩
theorem ref42_Bent_ok : ref42_Bent_t.ok Tryz.prog 14 := FnT.ok_of (cfg := ⟨[((14, 22, 9), .inv [(.tmprow 13 41 (.cons .int (.cons .int (.cons .int (.cons .int (.cons .int (.cons .int (.cons .int (.cons .int .nil)))))))))])], consR4, [], []⟩) (tab := ref13_Bent_T) (mt := mt0) pfit ref13_Bent_T_ok mt0_ok (fun s fn hf => by rw [Tryz.func14] at hf; cases hf; kernel_rfl) (fun n s => by kernel_rfl)
def ref42_Bent_T : Tab := (14, ref42_Bent_t) :: ref13_Bent_T
theorem ref42_Bent_T_ok : ref42_Bent_T.ok Tryz.prog := Tab.ok_cons ref42_Bent_ok ref13_Bent_T_ok
end
end Go.Proofs.YtgckmifmjiklmaaGreat
set_option maxRecDepth 100000
namespace Go.Proofs.YtgckmifmjiklmaaGreat
open Go Go.Sx Go.Dial.Blk Go.Dial.Mrg
theorem map_modify {α : Type} (f : α → List AV) (xs : List α) (i : Nat) (g : List AV → List AV) (h : α → α) (hf : ∀ x, g (f x) = f (h x)) : List.modify (xs.map f) i g = (xs.modify i h).map f := by
 induction xs generalizing i with
 | nil => cases i <;> rfl
 | cons x xs ih =>
  cases i with
  | zero => simp [List.modify_zero_cons, hf]
  | succ i => simp only [List.map_cons, List.modify_succ_cons, ih]
theorem bset0 (xs : List B3) (i : Nat) (v : Int) : List.modify (bL xs) i (fun r => r.set 0 (AV.int v)) = bL (xs.modify i fun b => ⟨v, b.t, b.c⟩) := map_modify bR xs i _ _ fun _ => rfl
theorem bset1 (xs : List B3) (i : Nat) (v : Int) : List.modify (bL xs) i (fun r => r.set 1 (AV.int v)) = bL (xs.modify i fun b => ⟨b.f, v, b.c⟩) := map_modify bR xs i _ _ fun _ => rfl
theorem bset2 (xs : List B3) (i : Nat) (v : Int) : List.modify (bL xs) i (fun r => r.set 2 (AV.int v)) = bL (xs.modify i fun b => ⟨b.f, b.t, v⟩) := map_modify bR xs i _ _ fun _ => rfl
theorem ref13_Bent_v (n : Nat) (l : List B3) (hl : l.length ≤ 1000) {a b c : Int} (ha : In64 a) (hb : In64 b) (hc : In64 c) (hn : 100 < n) : Ok (fun r => ∃ l', r = bL l') (ref13_Bent n (bL l) a b c) := by
 unfold ref13_Bent ref13_Bent_1
 have hlm : ((bL l).length : Int) = (l.length : Int) := by rw [List.length_map]
 rw [hlm]
 refine hN (by omega) (oF (fun _ => hD ⟨[⟨b, c, 0⟩], rfl⟩) (fun h0 => ?_))
 have pc := pk_bd c (k := (l.length : Int)) (by omega)
 have pa := pk_bd a (k := 6) (by decide)
 have pb := pk_bd b (k := 4) (by decide)
 rw [ref13_pick_v n hc (by omega), Option.bind_some, ref13_pick_v n ha (by decide), Option.bind_some]
 refine oF (fun _ => hN pc.1 (hN pc.2 (hD ⟨_, bset0 l _ _⟩))) (fun _ => oF (fun _ => hN pc.1 (hN pc.2 (hD ⟨_, bset1 l _ _⟩))) (fun _ => oF (fun _ => hN pc.1 (hN pc.2 (hD ⟨_, bset2 l _ _⟩))) (fun _ => oF (fun _ => hN pc.1 (hN pc.2 (hN (by omega) (hD ⟨l ++ [⟨cI (bL l) (pk c (l.length : Int)) 0, cI (bL l) (pk c (l.length : Int)) 1, cI (bL l) (pk c (l.length : Int)) 2⟩], ?_⟩)))) (fun _ => oF (fun _ => hN pc.1 (hN pc.2 (hN (by omega) (hD ?_)))) (fun _ => ?_)))))
 ·rw [bL_app]; rfl
 ·rw [bset0, bset1, bset2, bset0, bset1, bset2]
  exact ⟨_, rfl⟩
 ·refine iterF_ok (fun s => ∃ (i : Nat) (m : List B3), s = (bL m, (i : Int)) ∧ i ≤ 100 ∧ m.length ≤ i) (fun s => 100 - s.2.toNat) _ ?_ n _ ⟨0, [], rfl, by omega, by simp⟩ (by first | omega | (simp only; omega))
  rintro _ go ⟨i, m, rfl, hi, hm⟩ ih
  simp only at ih ⊢
  unfold ref13_Bent_2
  have hmm : ((bL m).length : Int) = (m.length : Int) := by rw [List.length_map]
  rw [ref13_pick_v n hb (by decide), Option.bind_some, hmm]
  refine hO (by omega) (by omega) (oF (fun hlt => hO (by omega) (by omega) (hO (by omega) (by omega) (hN (by omega) (hO (by omega) (by omega) (ih _ ⟨i + 1, m ++ [⟨2 * (i : Int), 2 * (i : Int) + 1, 1⟩], ?_, by omega, by simp; omega⟩ (by first | omega | (simp only; omega))))))) (fun _ => hD ⟨m, rfl⟩))
  rw [bL_app]; rfl
theorem eset (xs : List Ev) (i : Nat) (g : List AV → List AV) (h : Ev → Ev) (hf : ∀ x, g (evR x) = evR (h x)) : List.modify (evL xs) i g = evL (xs.modify i h) := map_modify evR xs i g h hf
def BentP (r : Int × Int × Lv × Lv × Lv × Lv) : Prop := ∃ (u : Wd) (m : List Ev), r = (u.al, u.ev, bL u.bl, iL u.ba, iL u.le, evL m) ∧ In64 u.al ∧ m.length ≤ 21
theorem bent_pad (n : Nat) (u : Wd) (hu : In64 u.al) (l : List Ev) (hl : l.length ≤ 21) (hn : 30 < n) : Ok BentP (iterF (fun go0 s => ref42_Bent_4 n go0 u.al u.ev (bL u.bl) (iL u.ba) (iL u.le) s) n (evL l : ref42_Bent_s0)) := by
 refine iterF_ok (fun s => ∃ m : List Ev, s = evL m ∧ m.length ≤ 21) (fun s => 21 - s.length) _ ?_ n _ ⟨l, rfl, hl⟩ (by first | omega | (simp only; omega))
 rintro _ go ⟨m, rfl, hm⟩ ih
 unfold ref42_Bent_4
 rw [elen]
 refine oF (fun hlt => hN (by omega) (ih _ ⟨m ++ [⟨4, 10000000, 0, 0, 0, 0, 0, 0⟩], ?_, by simp; omega⟩ ?_)) (fun _ => hD ⟨u, m, rfl, hu, hm⟩)
 ·rw [evL, evL, List.map_append]; rfl
 ·simp; omega
theorem ref42_Bent_v (n : Nat) (w : Wd) (hw : WV w) (l : List Ev) (hl : l.length ≤ 8) {a b c : Int} (ha : In64 a) (hb : In64 b) (hc : In64 c) (hn : 100 < n) : Ok BentP (ref42_Bent n w.al w.ev (bL w.bl) (iL w.ba) (iL w.le) (evL l) a b c) := by
 have hal : In64 w.al := by have h0 := hw.a0; have h1 := hw.a1; unfold In64; omega
 have hfew := hw.few
 unfold ref42_Bent ref42_Bent_1
 rw [ref42_Copy_v n w (by omega) (by rw [hw.bal]; decide) (by rw [hw.lel]; decide), Option.bind_some, elen, ref42_pick_v n ha (by decide), Option.bind_some]
 dsimp only
 refine hN (by omega) ?_
 have p8 := pk_bd c (k := 8) (by decide)
 have il1 : ((iL w.ba).length : Int) = 8 := by rw [ilen, hw.bal]; rfl
 have il2 : ((iL w.le).length : Int) = 8 := by rw [ilen, hw.lel]; rfl
 have hdiv : In64 (Int.tdiv a 13) := by
  unfold In64 at *
  by_cases h : 0 ≤ a
  ·have h1 := Int.tdiv_nonneg h (by omega : (0 : Int) ≤ 13)
   have h2 : Int.tdiv a 13 ≤ a := by rw [Int.tdiv_eq_ediv_of_nonneg h]; exact Int.ediv_le_self 13 h
   omega
  ·have h0 : 0 ≤ -a := by omega
   have h1 := Int.tdiv_nonneg h0 (by omega : (0 : Int) ≤ 13)
   have h2 : Int.tdiv (-a) 13 ≤ -a := by rw [Int.tdiv_eq_ediv_of_nonneg h0]; exact Int.ediv_le_self 13 h0
   rw [Int.neg_tdiv] at h1 h2
   omega
 have rest : ∀ v14 : Int, Ok BentP (bif (decide (v14 = 0)) then some (b, w.ev, bL w.bl, iL w.ba, iL w.le, evL l)
   else (bif (decide (v14 = 1)) then some (w.al, b, bL w.bl, iL w.ba, iL w.le, evL l)
   else (bif (decide (v14 = 2)) then (ref42_pick n c 8).bind fun y15 => bif (decide (0 ≤ y15)) then bif (decide (y15 < ((iL w.ba).length : Int))) then some (w.al, w.ev, bL w.bl, (List.modify (iL w.ba) (y15).toNat (fun r => r.set 0 (AV.int b))), iL w.le, evL l) else none else none
   else (bif (decide (v14 = 3)) then (ref42_pick n c 8).bind fun y15 => bif (decide (0 ≤ y15)) then bif (decide (y15 < ((iL w.le).length : Int))) then some (w.al, w.ev, bL w.bl, iL w.ba, (List.modify (iL w.le) (y15).toNat (fun r => r.set 0 (AV.int b))), evL l) else none else none
   else (bif (decide (v14 = 4)) then bif ((decide ((-9223372036854775808) ≤ (Int.tdiv a 13))) && (decide ((Int.tdiv a 13) ≤ 9223372036854775807))) then (ref13_Bent n (bL w.bl) (Int.tdiv a 13) b c).bind fun y15 => some (w.al, w.ev, y15, iL w.ba, iL w.le, evL l) else none
   else (iterF (fun go0 s => ref42_Bent_4 n go0 w.al w.ev (bL w.bl) (iL w.ba) (iL w.le) s) n (evL l : ref42_Bent_s0))))))) := fun v14 => by
  rw [ref42_pick_v n hc (by decide), Option.bind_some, Option.bind_some, il1, il2, imod, imod]
  refine oF (fun _ => hD ⟨⟨b, w.ev, w.bl, w.ba, w.le⟩, l, rfl, hb, by omega⟩) (fun _ => oF (fun _ => hD ⟨⟨w.al, b, w.bl, w.ba, w.le⟩, l, rfl, hal, by omega⟩) (fun _ => oF (fun _ => hN p8.1 (hN p8.2 (hD ⟨⟨w.al, w.ev, w.bl, w.ba.set (pk c 8).toNat b, w.le⟩, l, rfl, hal, by omega⟩)))
   (fun _ => oF (fun _ => hN p8.1 (hN p8.2 (hD ⟨⟨w.al, w.ev, w.bl, w.ba, w.le.set (pk c 8).toNat b⟩, l, rfl, hal, by omega⟩))) (fun _ => oF (fun _ => hO hdiv.1 hdiv.2 ?_) (fun _ => bent_pad n w hal l (by omega) (by omega))))))
  obtain ⟨_, e1, l', rfl⟩ := ref13_Bent_v n w.bl (by omega) hdiv hb hc hn
  rw [e1, Option.bind_some]
  exact hD ⟨⟨w.al, w.ev, l', w.ba, w.le⟩, l, rfl, hal, by omega⟩
 unfold ref42_Bent_2
 refine oF (fun h6 => ?_) (fun _ => rest _)
 unfold ref42_Bent_3
 rw [elen]
 refine oF (fun hp => ?_) (fun _ => rest _)
 have pc := pk_bd c (k := (l.length : Int)) (by omega)
 have hlen : ∀ (i : Nat) (h : Ev → Ev), (l.modify i h).length ≤ 21 := fun i h => by rw [List.length_modify]; omega
 have fin : ∀ (i : Nat) (g : List AV → List AV) (h : Ev → Ev), (∀ x, g (evR x) = evR (h x)) → Ok BentP (some (w.al, w.ev, bL w.bl, iL w.ba, iL w.le, List.modify (evL l) i g)) := fun i g h hf => by
  rw [eset l i g h hf]
  exact hD ⟨w, _, rfl, hal, hlen i h⟩
 rw [ref42_pick_v n hc (by omega), Option.bind_some]
 refine hN pc.1 (hN pc.2 ?_)
 refine oF (fun _ => fin _ _ (fun e => ⟨b, e.at_, e.a, e.b, e.c, e.f, e.t, e.m⟩) fun _ => rfl) (fun _ => oF (fun _ => fin _ _ (fun e => ⟨e.k, b, e.a, e.b, e.c, e.f, e.t, e.m⟩) fun _ => rfl) (fun _ => oF (fun _ => fin _ _ (fun e => ⟨e.k, e.at_, b, e.b, e.c, e.f, e.t, e.m⟩) fun _ => rfl)
  (fun _ => oF (fun _ => fin _ _ (fun e => ⟨e.k, e.at_, e.a, b, e.c, e.f, e.t, e.m⟩) fun _ => rfl) (fun _ => oF (fun _ => fin _ _ (fun e => ⟨e.k, e.at_, e.a, e.b, b, e.f, e.t, e.m⟩) fun _ => rfl) (fun _ => oF (fun _ => fin _ _ (fun e => ⟨e.k, e.at_, e.a, e.b, e.c, e.f, e.t, b⟩) fun _ => rfl)
   (fun _ => fin _ _ (fun e => ⟨e.k, e.at_, e.a, e.b, e.c, e.f, b, e.m⟩) fun _ => rfl))))))
end Go.Proofs.YtgckmifmjiklmaaGreat
set_option maxRecDepth 100000
namespace Go.Proofs.YtgckmifmjiklmaaGreat
open Go Go.Sx
theorem law42_sane_k (m : Nat) : law42_sane (m + 300) = some true := by kernel_rfl
theorem law42_sane_v (n : Nat) (hn : 300 < n) : law42_sane n = some true := by
 obtain ⟨m, rfl⟩ : ∃ m, n = m + 300 := ⟨n - 300, by omega⟩
 exact law42_sane_k m
end Go.Proofs.YtgckmifmjiklmaaGreat
