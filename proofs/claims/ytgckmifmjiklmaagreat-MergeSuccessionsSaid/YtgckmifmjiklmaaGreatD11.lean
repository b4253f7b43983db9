/-
  Plain functions for functions of the program, each with its contract (printed by decomp.py).
-/
import Derived.Test.YtgckmifmjiklmaaGreatSxP
import Derived.Test.YtgckmifmjiklmaaGreatSx25
import Derived.Test.YtgckmifmjiklmaaGreatD10
set_option linter.unusedSimpArgs false
set_option linter.unusedVariables false
set_option maxRecDepth 100000
namespace Go.Proofs.YtgckmifmjiklmaaGreat
open Go Go.Sx
noncomputable section
def consD11 : List Nat := [11, 12, 13, 14, 15, 16, 17, 18, 19, 20, 21, 22, 23, 24, 25, 26, 27, 28, 29, 30, 31, 32, 33, 34, 35, 36, 37, 38, 40, 46, 47, 51, 52, 54, 55, 56, 57, 58, 59, 61, 62, 63, 64, 66, 67, 69, 80, 83, 87, 90, 91, 92, 95, 96, 115, 116, 121, 122, 127, 128, 164, 165, 166, 197, 198, 201, 204, 205, 216, 229, 1000012, 1000056, 1000197, 1000216, 1000229]
/-! dialtone/dialtoneref42.pick -/
abbrev ref42_pick_a := Int
def ref42_pick_1 (n : Nat) (v0 v1 : Int) : Option ref42_pick_a :=
  (bif (decide (v0 < 0)) then bif ((decide ((-9223372036854775808) ≤ (v0 + 1))) && (decide ((v0 + 1) ≤ 9223372036854775807))) then bif ((decide ((-9223372036854775808) ≤ (0 - (v0 + 1)))) && (decide ((0 - (v0 + 1)) ≤ 9223372036854775807))) then bif (!(decide (v1 = 0))) then some (Int.tmod (0 - (v0 + 1)) v1) else none else none else none
  else bif (!(decide (v1 = 0))) then some (Int.tmod v0 v1) else none)
def ref42_pick (n : Nat) (v0 v1 : Int) : Option ref42_pick_a := ref42_pick_1 n v0 v1
def ref42_pick_t : FnT := ⟨[(false, [.int]), (false, [.int])], .i, fun n (s : Int × Int) => ref42_pick n s.1 s.2⟩
theorem ref42_pick_ok : ref42_pick_t.ok Tryz.prog 58 := FnT.ok_of (cfg := ⟨[], consD11, [], []⟩) (tab := merge_Debts_T) (mt := mt0) pfit merge_Debts_T_ok mt0_ok (fun s fn hf => by rw [Tryz.func58] at hf; cases hf; kernel_rfl) (fun n s => by kernel_rfl)
def ref42_pick_T : Tab := (58, ref42_pick_t) :: merge_Debts_T
theorem ref42_pick_T_ok : ref42_pick_T.ok Tryz.prog := Tab.ok_cons ref42_pick_ok merge_Debts_T_ok
/-! dialtone/dialtoneref42.Ints -/
abbrev ref42_Ints_a := Bool
abbrev ref42_Ints_s0 := Int
def ref42_Ints_2 (n : Nat) (go0 : ref42_Ints_s0 → Option ref42_Ints_a) (v0 v1 : Lv) (v2 : Int) : Option ref42_Ints_a :=
  (bif (decide (v2 < (v0.length : Int))) then bif (decide (0 ≤ v2)) then bif (decide (v2 < (v1.length : Int))) then (bif (!(decide ((cI v0 v2 0) = (cI v1 v2 0)))) then some false
  else bif ((decide ((-9223372036854775808) ≤ (v2 + 1))) && (decide ((v2 + 1) ≤ 9223372036854775807))) then go0 (v2 + 1) else none) else none else none
  else some true)
def ref42_Ints_1 (n : Nat) (v0 v1 : Lv) : Option ref42_Ints_a :=
  (bif (!(decide ((v0.length : Int) = (v1.length : Int)))) then some false
  else (iterF (fun go0 s => ref42_Ints_2 n go0 v0 v1 s) n (0 : ref42_Ints_s0)))
def ref42_Ints (n : Nat) (v0 v1 : Lv) : Option ref42_Ints_a := ref42_Ints_1 n v0 v1
def ref42_Ints_t : FnT := ⟨[(false, [(.sl (.cons .int .nil))]), (false, [(.sl (.cons .int .nil))])], .b, fun n (s : Lv × Lv) => ref42_Ints n s.1 s.2⟩
theorem ref42_Ints_ok : ref42_Ints_t.ok Tryz.prog 34 := FnT.ok_of (cfg := ⟨[((34, 4, 0), .inv [(.tmp 5 .int)])], consD11, [], []⟩) (tab := ref42_pick_T) (mt := mt0) pfit ref42_pick_T_ok mt0_ok (fun s fn hf => by rw [Tryz.func34] at hf; cases hf; kernel_rfl) (fun n s => by kernel_rfl)
def ref42_Ints_T : Tab := (34, ref42_Ints_t) :: ref42_pick_T
theorem ref42_Ints_T_ok : ref42_Ints_T.ok Tryz.prog := Tab.ok_cons ref42_Ints_ok ref42_pick_T_ok
/-! dialtone/dialtoneref42.Same -/
abbrev ref42_Same_a := Bool
def ref42_Same_1 (n : Nat) (v0 v1 : Int) (v2 v3 v4 : Lv) (v5 v6 : Int) (v7 v8 v9 : Lv) : Option ref42_Same_a :=
  (bif (decide (v0 = v5)) then (bif (decide (v1 = v6)) then (ref13_Same n v2 v7).bind fun y10 =>
  (bif y10 then (ref42_Ints n v3 v8).bind fun y11 =>
  (bif y11 then (ref42_Ints n v4 v9).bind fun y12 =>
  some y12
  else some false)
  else some false)
  else some false)
  else some false)
def ref42_Same (n : Nat) (v0 v1 : Int) (v2 v3 v4 : Lv) (v5 v6 : Int) (v7 v8 v9 : Lv) : Option ref42_Same_a := ref42_Same_1 n v0 v1 v2 v3 v4 v5 v6 v7 v8 v9
def ref42_Same_t : FnT := ⟨[(true, [.int, .int, (.sl (.cons .int (.cons .int (.cons .int .nil)))), (.sl (.cons .int .nil)), (.sl (.cons .int .nil))]), (true, [.int, .int, (.sl (.cons .int (.cons .int (.cons .int .nil)))), (.sl (.cons .int .nil)), (.sl (.cons .int .nil))])], .b, fun n (s : Int × Int × Lv × Lv × Lv × Int × Int × Lv × Lv × Lv) => ref42_Same n s.1 s.2.1 s.2.2.1 s.2.2.2.1 s.2.2.2.2.1 s.2.2.2.2.2.1 s.2.2.2.2.2.2.1 s.2.2.2.2.2.2.2.1 s.2.2.2.2.2.2.2.2.1 s.2.2.2.2.2.2.2.2.2⟩
theorem ref42_Same_ok : ref42_Same_t.ok Tryz.prog 20 := FnT.ok_of (cfg := ⟨[], consD11, [], []⟩) (tab := ref42_Ints_T) (mt := mt0) pfit ref42_Ints_T_ok mt0_ok (fun s fn hf => by rw [Tryz.func20] at hf; cases hf; kernel_rfl) (fun n s => by kernel_rfl)
def ref42_Same_T : Tab := (20, ref42_Same_t) :: ref42_Ints_T
theorem ref42_Same_T_ok : ref42_Same_T.ok Tryz.prog := Tab.ok_cons ref42_Same_ok ref42_Ints_T_ok
/-! dialtone/dialtoneref42.Owe -/
abbrev ref42_Owe_a := Lv
abbrev ref42_Owe_s0 := Lv × Int
def ref42_Owe_2 (n : Nat) (go0 : ref42_Owe_s0 → Option ref42_Owe_a) (v0 : Int) (v1 v2 : Lv) (v3 : Int) : Option ref42_Owe_a :=
  (bif (decide (v3 < (v1.length : Int))) then (bif (decide (v3 < 12)) then bif (decide (0 ≤ v3)) then (ref42_pick n (cI v1 v3 0) 8).bind fun y4 =>
  (ref42_pick n (cI v1 v3 1) 8).bind fun y5 =>
  (ref42_pick n (cI v1 v3 2) 1000).bind fun y6 =>
  bif ((decide ((-9223372036854775808) ≤ (1 + y6))) && (decide ((1 + y6) ≤ 9223372036854775807))) then (bif (!(decide (y4 = y5))) then bif (decide (0 ≤ y4)) then (bif (decide ((Int.tmod (IOp.f .shr v0 y4) 2) = 1)) then bif (decide (0 ≤ y5)) then (bif (decide ((Int.tmod (IOp.f .shr v0 y5) 2) = 1)) then bif (decide ((((v2.length : Int) + 1) * 24) ≤ 140737488355328)) then bif ((decide ((-9223372036854775808) ≤ (v3 + 1))) && (decide ((v3 + 1) ≤ 9223372036854775807))) then go0 ((v2 ++ [[(AV.int y4), (AV.int y5), (AV.int (1 + y6))]]), (v3 + 1)) else none else none
  else bif ((decide ((-9223372036854775808) ≤ (v3 + 1))) && (decide ((v3 + 1) ≤ 9223372036854775807))) then go0 (v2, (v3 + 1)) else none) else none
  else bif ((decide ((-9223372036854775808) ≤ (v3 + 1))) && (decide ((v3 + 1) ≤ 9223372036854775807))) then go0 (v2, (v3 + 1)) else none) else none
  else bif ((decide ((-9223372036854775808) ≤ (v3 + 1))) && (decide ((v3 + 1) ≤ 9223372036854775807))) then go0 (v2, (v3 + 1)) else none) else none else none
  else some v2)
  else some v2)
def ref42_Owe_1 (n : Nat) (v0 : Int) (v1 : Lv) : Option ref42_Owe_a :=
  (iterF (fun go0 s => ref42_Owe_2 n go0 v0 v1 s.1 s.2) n ((([] : Lv), 0) : ref42_Owe_s0))
def ref42_Owe (n : Nat) (v0 : Int) (v1 : Lv) : Option ref42_Owe_a := ref42_Owe_1 n v0 v1
def ref42_Owe_t : FnT := ⟨[(false, [.int]), (false, [(.sl (.cons .int (.cons .int (.cons .int .nil))))])], (.row 114 (.cons .int (.cons .int (.cons .int .nil)))), fun n (s : Int × Lv) => ref42_Owe n s.1 s.2⟩
theorem ref42_Owe_ok : ref42_Owe_t.ok Tryz.prog 55 := FnT.ok_of (cfg := ⟨[((55, 3, 0), .inv [(.tmprow 5 114 (.cons .int (.cons .int (.cons .int .nil)))), (.tmp 6 .int)])], consD11, [], []⟩) (tab := ref42_Same_T) (mt := mt0) pfit ref42_Same_T_ok mt0_ok (fun s fn hf => by rw [Tryz.func55] at hf; cases hf; kernel_rfl) (fun n s => by kernel_rfl)
def ref42_Owe_T : Tab := (55, ref42_Owe_t) :: ref42_Same_T
theorem ref42_Owe_T_ok : ref42_Owe_T.ok Tryz.prog := Tab.ok_cons ref42_Owe_ok ref42_Same_T_ok
/-! dialtone/dialtoneref42.Made -/
abbrev ref42_Made_a := Int × Int × Lv × Lv × Lv
abbrev ref42_Made_s0 := Int × Lv
abbrev ref42_Made_s1 := Lv × Int × Lv
abbrev ref42_Made_s2 := Int
def ref42_Made_5 (n : Nat) (go0 : ref42_Made_s0 → Option ref42_Made_a) (v4 : Lv) (v5 v6 : Int) (v9 v11 : Lv) (v12 : Int) (v13 : Lv) : Option ref42_Made_a :=
  (bif (decide (v12 < (v4.length : Int))) then bif (decide (0 ≤ v12)) then (bif (decide (0 ≤ (cI v4 v12 0))) then (bif (decide ((cI v4 v12 0) ≤ 7)) then (bif (decide (0 ≤ (cI v4 v12 1))) then (bif (decide ((cI v4 v12 1) ≤ 7)) then (bif (decide ((Int.tmod (IOp.f .shr (1 + v5) (cI v4 v12 0)) 2) = 1)) then (bif (decide ((Int.tmod (IOp.f .shr (1 + v5) (cI v4 v12 1)) 2) = 1)) then bif (decide ((cI v4 v12 0) < (v13.length : Int))) then bif ((decide ((-9223372036854775808) ≤ ((cI v13 (cI v4 v12 0) 0) - (cI v4 v12 2)))) && (decide (((cI v13 (cI v4 v12 0) 0) - (cI v4 v12 2)) ≤ 9223372036854775807))) then bif (decide ((cI v4 v12 1) < (v13.length : Int))) then bif ((decide ((-9223372036854775808) ≤ ((cI (List.modify v13 ((cI v4 v12 0)).toNat (fun r => r.set 0 (AV.int ((cI v13 (cI v4 v12 0) 0) - (cI v4 v12 2))))) (cI v4 v12 1) 0) + (cI v4 v12 2)))) && (decide (((cI (List.modify v13 ((cI v4 v12 0)).toNat (fun r => r.set 0 (AV.int ((cI v13 (cI v4 v12 0) 0) - (cI v4 v12 2))))) (cI v4 v12 1) 0) + (cI v4 v12 2)) ≤ 9223372036854775807))) then bif ((decide ((-9223372036854775808) ≤ (v12 + 1))) && (decide ((v12 + 1) ≤ 9223372036854775807))) then go0 ((v12 + 1), (List.modify (List.modify v13 ((cI v4 v12 0)).toNat (fun r => r.set 0 (AV.int ((cI v13 (cI v4 v12 0) 0) - (cI v4 v12 2))))) ((cI v4 v12 1)).toNat (fun r => r.set 0 (AV.int ((cI (List.modify v13 ((cI v4 v12 0)).toNat (fun r => r.set 0 (AV.int ((cI v13 (cI v4 v12 0) 0) - (cI v4 v12 2))))) (cI v4 v12 1) 0) + (cI v4 v12 2)))))) else none else none else none else none else none
  else bif ((decide ((-9223372036854775808) ≤ (v12 + 1))) && (decide ((v12 + 1) ≤ 9223372036854775807))) then go0 ((v12 + 1), v13) else none)
  else bif ((decide ((-9223372036854775808) ≤ (v12 + 1))) && (decide ((v12 + 1) ≤ 9223372036854775807))) then go0 ((v12 + 1), v13) else none)
  else bif ((decide ((-9223372036854775808) ≤ (v12 + 1))) && (decide ((v12 + 1) ≤ 9223372036854775807))) then go0 ((v12 + 1), v13) else none)
  else bif ((decide ((-9223372036854775808) ≤ (v12 + 1))) && (decide ((v12 + 1) ≤ 9223372036854775807))) then go0 ((v12 + 1), v13) else none)
  else bif ((decide ((-9223372036854775808) ≤ (v12 + 1))) && (decide ((v12 + 1) ≤ 9223372036854775807))) then go0 ((v12 + 1), v13) else none)
  else bif ((decide ((-9223372036854775808) ≤ (v12 + 1))) && (decide ((v12 + 1) ≤ 9223372036854775807))) then go0 ((v12 + 1), v13) else none) else none
  else some ((1 + v5), (IOp.f .or (1 + v5) v6), v9, v13, v11))
def ref42_Made_4 (n : Nat) (go0 : ref42_Made_s1 → Option ref42_Made_a) (v3 : Int) (v4 : Lv) (v5 v6 v8 : Int) (v9 : Lv) (v10 : Int) (v11 : Lv) : Option ref42_Made_a :=
  (bif (decide (v10 < 8)) then bif (decide (0 ≤ v10)) then (bif (!(decide ((Int.tmod (IOp.f .shr (1 + v5) v10) 2) = 1))) then (ref13_Swap n v9 v10 v8).bind fun y12 =>
  bif (decide ((((v11.length : Int) + 1) * 8) ≤ 140737488355328)) then bif ((decide ((-9223372036854775808) ≤ (v10 + 1))) && (decide ((v10 + 1) ≤ 9223372036854775807))) then go0 (y12.1, (v10 + 1), (v11 ++ [[(AV.int 0)]])) else none else none
  else (ref42_pick n v3 256).bind fun y12 =>
  bif ((decide ((-9223372036854775808) ≤ (3 + (Int.tmod (IOp.f .shr y12 v10) 2)))) && (decide ((3 + (Int.tmod (IOp.f .shr y12 v10) 2)) ≤ 9223372036854775807))) then bif (decide ((((v11.length : Int) + 1) * 8) ≤ 140737488355328)) then bif ((decide ((-9223372036854775808) ≤ (v10 + 1))) && (decide ((v10 + 1) ≤ 9223372036854775807))) then go0 (v9, (v10 + 1), (v11 ++ [[(AV.int (3 + (Int.tmod (IOp.f .shr y12 v10) 2)))]])) else none else none else none) else none
  else (iterF (fun go0 s => ref42_Made_5 n go0 v4 v5 v6 v9 v11 s.1 s.2) n ((0, (List.replicate ((8 : Int)).toNat [(AV.int 0)])) : ref42_Made_s0)))
def ref42_Made_3 (n : Nat) (go0 : ref42_Made_s2 → Option ref42_Made_a) (v3 : Int) (v4 : Lv) (v5 v6 : Int) (v7 : Lv) (v8 : Int) : Option ref42_Made_a :=
  (bif (!(decide ((Int.tmod (IOp.f .shr (1 + v5) v8) 2) = 1))) then bif ((decide ((-9223372036854775808) ≤ (v8 + 1))) && (decide ((v8 + 1) ≤ 9223372036854775807))) then go0 (v8 + 1) else none
  else (iterF (fun go0 s => ref42_Made_4 n go0 v3 v4 v5 v6 v8 s.1 s.2.1 s.2.2) n ((v7, 0, ([] : Lv)) : ref42_Made_s1)))
def ref42_Made_2 (n : Nat) (go0 : ref42_Made_s2 → Option ref42_Made_a) (v3 : Int) (v4 : Lv) (v5 v6 : Int) (v7 : Lv) (v8 : Int) : Option ref42_Made_a :=
  bif (decide (0 ≤ v8)) then ref42_Made_3 n go0 v3 v4 v5 v6 v7 v8 else none
def ref42_Made_1 (n : Nat) (v0 v1 : Int) (v2 : Lv) (v3 : Int) (v4 : Lv) : Option ref42_Made_a :=
  (ref42_pick n v0 255).bind fun y5 =>
  bif ((decide ((-9223372036854775808) ≤ (1 + y5))) && (decide ((1 + y5) ≤ 9223372036854775807))) then (ref42_pick n v1 256).bind fun y6 =>
  bif (decide (0 ≤ (imin (v2.length : Int) 8))) then bif (decide ((imin (v2.length : Int) 8) ≤ (v2.length : Int))) then (ref13_Made n (List.take ((imin (v2.length : Int) 8)).toNat v2)).bind fun y7 =>
  (iterF (fun go0 s => ref42_Made_2 n go0 v3 v4 y5 y6 y7 s) n (0 : ref42_Made_s2)) else none else none else none
def ref42_Made (n : Nat) (v0 v1 : Int) (v2 : Lv) (v3 : Int) (v4 : Lv) : Option ref42_Made_a := ref42_Made_1 n v0 v1 v2 v3 v4
def ref42_Made_t : FnT := ⟨[(false, [.int]), (false, [.int]), (false, [(.sl (.cons .int (.cons .int (.cons .int .nil))))]), (false, [.int]), (false, [(.sl (.cons .int (.cons .int (.cons .int .nil))))])], (.agg (.cons .i (.cons .i (.cons (.row 1000116 (.cons .int (.cons .int (.cons .int .nil)))) (.cons (.row 1000003 (.cons .int .nil)) (.cons (.row 1000003 (.cons .int .nil)) .nil)))))), fun n (s : Int × Int × Lv × Int × Lv) => ref42_Made n s.1 s.2.1 s.2.2.1 s.2.2.2.1 s.2.2.2.2⟩
theorem ref42_Made_ok : ref42_Made_t.ok Tryz.prog 56 := FnT.ok_of (cfg := ⟨[((56, 5, 5), .inv [(.tmp 13 .int)]), ((56, 8, 6), .inv [(.tmprow 12 116 (.cons .int (.cons .int (.cons .int .nil)))), (.tmp 14 .int), (.cellrow 1 4 3 (.cons .int .nil))]), ((56, 19, 12), .inv [(.tmp 16 .int), (.cellrow 1 3 3 (.cons .int .nil))])], consD11, [], []⟩) (tab := ref42_Owe_T) (mt := mt0) pfit ref42_Owe_T_ok mt0_ok (fun s fn hf => by rw [Tryz.func56] at hf; cases hf; kernel_rfl) (fun n s => by kernel_rfl)
def ref42_Made_T : Tab := (56, ref42_Made_t) :: ref42_Owe_T
theorem ref42_Made_T_ok : ref42_Made_T.ok Tryz.prog := Tab.ok_cons ref42_Made_ok ref42_Owe_T_ok
/-! dialtone/dialtoneref42.One -/
abbrev ref42_One_a := Int × Int × Int × Int × Int × Int × Int × Int
abbrev ref42_One_s0 := Int × Int
def ref42_One_6 (n : Nat) (go0 : ref42_One_s0 → Option ref42_One_a) (v0 v5 v11 v12 v13 v14 v17 v21 v22 v23 : Int) : Option ref42_One_a :=
  (bif (decide (v22 < 8)) then (bif (decide (v23 = v17)) then bif ((decide ((-9223372036854775808) ≤ (v23 + 1))) && (decide ((v23 + 1) ≤ 9223372036854775807))) then bif ((decide ((-9223372036854775808) ≤ (v22 + 1))) && (decide ((v22 + 1) ≤ 9223372036854775807))) then go0 ((v22 + 1), (Int.tmod (v23 + 1) 8)) else none else none
  else bif (decide (0 ≤ v23)) then (bif (!(decide ((Int.tmod (IOp.f .shr v0 v23) 2) = 1))) then bif ((decide ((-9223372036854775808) ≤ (v23 + 1))) && (decide ((v23 + 1) ≤ 9223372036854775807))) then bif ((decide ((-9223372036854775808) ≤ (v22 + 1))) && (decide ((v22 + 1) ≤ 9223372036854775807))) then go0 ((v22 + 1), (Int.tmod (v23 + 1) 8)) else none else none
  else (ref13_Piece n v11 v12).bind fun y24 =>
  (ref42_pick n v12 401).bind fun y26 =>
  bif ((decide ((-9223372036854775808) ≤ (y26 - 200))) && (decide ((y26 - 200) ≤ 9223372036854775807))) then some ((1 + v13), (v5 + v14), v17, v21, 0, y24.1, y24.2, (y26 - 200)) else none) else none)
  else (ref13_Piece n v11 v12).bind fun y24 =>
  (ref42_pick n v12 401).bind fun y26 =>
  bif ((decide ((-9223372036854775808) ≤ (y26 - 200))) && (decide ((y26 - 200) ≤ 9223372036854775807))) then some ((1 + v13), (v5 + v14), v17, v21, 0, y24.1, y24.2, (y26 - 200)) else none)
abbrev ref42_One_7 := @ref42_One_6
def ref42_One_5 (n : Nat) (go0 : ref42_One_s0 → Option ref42_One_a) (v0 v1 v5 v11 v12 v13 v14 v17 v19 v20 v21 : Int) : Option ref42_One_a :=
  (bif (decide (v20 < 8)) then (bif (decide (v21 = v17)) then bif ((decide ((-9223372036854775808) ≤ (v21 + 1))) && (decide ((v21 + 1) ≤ 9223372036854775807))) then bif ((decide ((-9223372036854775808) ≤ (v20 + 1))) && (decide ((v20 + 1) ≤ 9223372036854775807))) then go0 ((v20 + 1), (Int.tmod (v21 + 1) 8)) else none else none
  else bif (decide (0 ≤ v21)) then (bif (!((decide ((Int.tmod (IOp.f .shr v1 v21) 2) = 1)) == false)) then bif ((decide ((-9223372036854775808) ≤ (v21 + 1))) && (decide ((v21 + 1) ≤ 9223372036854775807))) then bif ((decide ((-9223372036854775808) ≤ (v20 + 1))) && (decide ((v20 + 1) ≤ 9223372036854775807))) then go0 ((v20 + 1), (Int.tmod (v21 + 1) 8)) else none else none
  else (iterF (fun go0 s => ref42_One_6 n go0 v0 v5 v11 v12 v13 v14 v17 v21 s.1 s.2) n ((0, v19) : ref42_One_s0))) else none)
  else (iterF (fun go0 s => ref42_One_7 n go0 v0 v5 v11 v12 v13 v14 v17 v21 s.1 s.2) n ((0, v19) : ref42_One_s0)))
def ref42_One_9 (n : Nat) (go0 : ref42_One_s0 → Option ref42_One_a) (v0 v5 v11 v12 v13 v14 v17 v21 v22 v23 : Int) : Option ref42_One_a :=
  (bif (decide (v22 < 8)) then (bif (decide (v23 = v17)) then bif ((decide ((-9223372036854775808) ≤ (v23 + 1))) && (decide ((v23 + 1) ≤ 9223372036854775807))) then bif ((decide ((-9223372036854775808) ≤ (v22 + 1))) && (decide ((v22 + 1) ≤ 9223372036854775807))) then go0 ((v22 + 1), (Int.tmod (v23 + 1) 8)) else none else none
  else bif (decide (0 ≤ v23)) then (bif (!(decide ((Int.tmod (IOp.f .shr v0 v23) 2) = 1))) then bif ((decide ((-9223372036854775808) ≤ (v23 + 1))) && (decide ((v23 + 1) ≤ 9223372036854775807))) then bif ((decide ((-9223372036854775808) ≤ (v22 + 1))) && (decide ((v22 + 1) ≤ 9223372036854775807))) then go0 ((v22 + 1), (Int.tmod (v23 + 1) 8)) else none else none
  else (ref13_Piece n v11 v12).bind fun y24 =>
  (ref42_pick n v12 401).bind fun y26 =>
  bif ((decide ((-9223372036854775808) ≤ (y26 - 200))) && (decide ((y26 - 200) ≤ 9223372036854775807))) then (bif (!(decide ((1 + v13) = 3))) then (bif (decide ((1 + v13) = 1)) then some ((1 + v13), (v5 + v14), v17, v21, 0, 0, 0, 0)
  else (bif (decide ((1 + v13) = 4)) then some ((1 + v13), (v5 + v14), v17, 0, 0, 0, 0, 0)
  else some ((1 + v13), (v5 + v14), v17, v21, 0, y24.1, y24.2, (y26 - 200))))
  else some ((1 + v13), (v5 + v14), v17, v21, v23, y24.1, y24.2, (y26 - 200))) else none) else none)
  else (ref13_Piece n v11 v12).bind fun y24 =>
  (ref42_pick n v12 401).bind fun y26 =>
  bif ((decide ((-9223372036854775808) ≤ (y26 - 200))) && (decide ((y26 - 200) ≤ 9223372036854775807))) then (bif (!(decide ((1 + v13) = 3))) then (bif (decide ((1 + v13) = 1)) then some ((1 + v13), (v5 + v14), v17, v21, 0, 0, 0, 0)
  else (bif (decide ((1 + v13) = 4)) then some ((1 + v13), (v5 + v14), v17, 0, 0, 0, 0, 0)
  else some ((1 + v13), (v5 + v14), v17, v21, 0, y24.1, y24.2, (y26 - 200))))
  else some ((1 + v13), (v5 + v14), v17, v21, v23, y24.1, y24.2, (y26 - 200))) else none)
abbrev ref42_One_10 := @ref42_One_9
def ref42_One_8 (n : Nat) (go0 : ref42_One_s0 → Option ref42_One_a) (v0 v5 v11 v12 v13 v14 v17 v19 v20 v21 : Int) : Option ref42_One_a :=
  (bif (decide (v20 < 8)) then (bif (decide (v21 = v17)) then bif ((decide ((-9223372036854775808) ≤ (v21 + 1))) && (decide ((v21 + 1) ≤ 9223372036854775807))) then bif ((decide ((-9223372036854775808) ≤ (v20 + 1))) && (decide ((v20 + 1) ≤ 9223372036854775807))) then go0 ((v20 + 1), (Int.tmod (v21 + 1) 8)) else none else none
  else bif (decide (0 ≤ v21)) then (bif (!((decide ((Int.tmod (IOp.f .shr v0 v21) 2) = 1)) == true)) then bif ((decide ((-9223372036854775808) ≤ (v21 + 1))) && (decide ((v21 + 1) ≤ 9223372036854775807))) then bif ((decide ((-9223372036854775808) ≤ (v20 + 1))) && (decide ((v20 + 1) ≤ 9223372036854775807))) then go0 ((v20 + 1), (Int.tmod (v21 + 1) 8)) else none else none
  else (iterF (fun go0 s => ref42_One_9 n go0 v0 v5 v11 v12 v13 v14 v17 v21 s.1 s.2) n ((0, v19) : ref42_One_s0))) else none)
  else (iterF (fun go0 s => ref42_One_10 n go0 v0 v5 v11 v12 v13 v14 v17 v21 s.1 s.2) n ((0, v19) : ref42_One_s0)))
def ref42_One_4 (n : Nat) (go0 : ref42_One_s0 → Option ref42_One_a) (v0 v1 v5 v11 v12 v13 v14 v17 v18 v19 : Int) : Option ref42_One_a :=
  (bif (decide ((1 + v13) = 2)) then (iterF (fun go0 s => ref42_One_5 n go0 v0 v1 v5 v11 v12 v13 v14 v17 v19 s.1 s.2) n ((0, v18) : ref42_One_s0))
  else (iterF (fun go0 s => ref42_One_8 n go0 v0 v5 v11 v12 v13 v14 v17 v19 s.1 s.2) n ((0, v18) : ref42_One_s0)))
def ref42_One_3 (n : Nat) (go0 : ref42_One_s0 → Option ref42_One_a) (v0 v1 v5 v9 v10 v11 v12 v13 v14 v16 v17 : Int) : Option ref42_One_a :=
  (bif (!(decide ((Int.tmod (IOp.f .shr v0 v17) 2) = 1))) then bif ((decide ((-9223372036854775808) ≤ (v17 + 1))) && (decide ((v17 + 1) ≤ 9223372036854775807))) then bif ((decide ((-9223372036854775808) ≤ (v16 + 1))) && (decide ((v16 + 1) ≤ 9223372036854775807))) then go0 ((v16 + 1), (Int.tmod (v17 + 1) 8)) else none else none
  else (ref42_pick n v9 8).bind fun y18 =>
  (ref42_pick n v10 8).bind fun y19 =>
  ref42_One_4 n go0 v0 v1 v5 v11 v12 v13 v14 v17 y18 y19)
abbrev ref42_One_13 := @ref42_One_6
abbrev ref42_One_14 := @ref42_One_6
abbrev ref42_One_12 := @ref42_One_5
abbrev ref42_One_16 := @ref42_One_9
abbrev ref42_One_17 := @ref42_One_9
abbrev ref42_One_15 := @ref42_One_8
abbrev ref42_One_11 := @ref42_One_4
def ref42_One_2 (n : Nat) (go0 : ref42_One_s0 → Option ref42_One_a) (v0 v1 v5 v9 v10 v11 v12 v13 v14 v16 v17 : Int) : Option ref42_One_a :=
  (bif (decide (v16 < 8)) then bif (decide (0 ≤ v17)) then ref42_One_3 n go0 v0 v1 v5 v9 v10 v11 v12 v13 v14 v16 v17 else none
  else (ref42_pick n v9 8).bind fun y18 =>
  (ref42_pick n v10 8).bind fun y19 =>
  ref42_One_11 n go0 v0 v1 v5 v11 v12 v13 v14 v17 y18 y19)
def ref42_One_1 (n : Nat) (v0 v1 v5 v6 v7 v8 v9 v10 v11 v12 : Int) : Option ref42_One_a :=
  (ref42_pick n v6 4).bind fun y13 =>
  bif ((decide ((-9223372036854775808) ≤ (1 + y13))) && (decide ((1 + y13) ≤ 9223372036854775807))) then (ref42_pick n v7 5).bind fun y14 =>
  bif ((decide ((-9223372036854775808) ≤ (v5 + y14))) && (decide ((v5 + y14) ≤ 9223372036854775807))) then (ref42_pick n v8 8).bind fun y15 =>
  (iterF (fun go0 s => ref42_One_2 n go0 v0 v1 v5 v9 v10 v11 v12 y13 y14 s.1 s.2) n ((0, y15) : ref42_One_s0)) else none else none
def ref42_One (n : Nat) (v0 v1 : Int) (v2 v3 v4 : Lv) (v5 v6 v7 v8 v9 v10 v11 v12 : Int) : Option ref42_One_a := ref42_One_1 n v0 v1 v5 v6 v7 v8 v9 v10 v11 v12
def ref42_One_t : FnT := ⟨[(true, [.int, .int, (.sl (.cons .int (.cons .int (.cons .int .nil)))), (.sl (.cons .int .nil)), (.sl (.cons .int .nil))]), (false, [.int]), (true, [.int, .int, .int, .int, .int, .int, .int])], (.agg (.cons .i (.cons .i (.cons .i (.cons .i (.cons .i (.cons .i (.cons .i (.cons .i .nil))))))))), fun n (s : Int × Int × Lv × Lv × Lv × Int × Int × Int × Int × Int × Int × Int × Int) => ref42_One n s.1 s.2.1 s.2.2.1 s.2.2.2.1 s.2.2.2.2.1 s.2.2.2.2.2.1 s.2.2.2.2.2.2.1 s.2.2.2.2.2.2.2.1 s.2.2.2.2.2.2.2.2.1 s.2.2.2.2.2.2.2.2.2.1 s.2.2.2.2.2.2.2.2.2.2.1 s.2.2.2.2.2.2.2.2.2.2.2.1 s.2.2.2.2.2.2.2.2.2.2.2.2⟩
theorem ref42_One_ok : ref42_One_t.ok Tryz.prog 15 := FnT.ok_of (cfg := ⟨[((15, 3, 5), .inv [(.tmp 8 .int), (.cell 3 2 .int)]), ((15, 15, 9), .inv [(.tmp 11 .int), (.cell 3 3 .int)]), ((15, 19, 11), .inv [(.tmp 12 .int), (.cell 3 4 .int)])], consD11, [], []⟩) (tab := ref42_Made_T) (mt := mt0) pfit ref42_Made_T_ok mt0_ok (fun s fn hf => by rw [Tryz.func15] at hf; cases hf; kernel_rfl) (fun n s => by kernel_rfl)
def ref42_One_T : Tab := (15, ref42_One_t) :: ref42_Made_T
theorem ref42_One_T_ok : ref42_One_T.ok Tryz.prog := Tab.ok_cons ref42_One_ok ref42_Made_T_ok
end
end Go.Proofs.YtgckmifmjiklmaaGreat
