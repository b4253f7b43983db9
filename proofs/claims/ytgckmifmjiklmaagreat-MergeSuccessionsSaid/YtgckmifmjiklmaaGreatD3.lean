/-
  Plain functions for functions of the program, each with its contract (printed by decomp.py).
-/
import Derived.Test.YtgckmifmjiklmaaGreatSxP
import Derived.Test.YtgckmifmjiklmaaGreatSx25
import Derived.Test.YtgckmifmjiklmaaGreatD2
set_option linter.unusedSimpArgs false
set_option linter.unusedVariables false
set_option maxRecDepth 100000
namespace Go.Proofs.YtgckmifmjiklmaaGreat
open Go Go.Sx
noncomputable section
def consD3 : List Nat := [11, 12, 13, 14, 15, 16, 17, 18, 19, 20, 21, 22, 23, 24, 25, 26, 27, 28, 29, 30, 31, 32, 33, 34, 35, 36, 37, 38, 40, 46, 47, 51, 52, 54, 55, 56, 57, 58, 59, 61, 62, 63, 64, 66, 67, 69, 80, 83, 87, 90, 91, 92, 95, 96, 115, 116, 121, 122, 127, 128, 164, 165, 166, 197, 198, 201, 204, 205, 216, 229, 1000012, 1000056, 1000197, 1000216, 1000229]
/-! dialtone/dialtoneref13.combine -/
abbrev ref13_combine_a := Lv × Int
abbrev ref13_combine_s0 := Lv × Int
def ref13_combine_6 (n : Nat) (go0 : ref13_combine_s0 → Option ref13_combine_a) (v3 v4 : Int) (v5 v6 : Lv) (v7 v8 : Int) : Option ref13_combine_a :=
  (bif (decide (0 ≤ v8)) then (bif (decide (v8 = v3)) then (bif (decide (v4 < 0)) then go0 (v6, (v7 + 1))
  else (bif (decide (0 < (v6.length : Int))) then bif ((decide ((-9223372036854775808) ≤ ((v6.length : Int) - 1))) && (decide (((v6.length : Int) - 1) ≤ 9223372036854775807))) then bif (decide (0 ≤ (imax ((v6.length : Int) - 1) 0))) then bif (decide ((imax ((v6.length : Int) - 1) 0) < (v6.length : Int))) then (bif (decide ((cI v6 (imax ((v6.length : Int) - 1) 0) 1) = (cI v5 v7 0))) then (bif (decide ((cI v6 (imax ((v6.length : Int) - 1) 0) 2) = v4)) then bif (decide (0 ≤ (v7 + 1))) then bif (decide (0 ≤ ((v6.length : Int) - 1))) then bif (decide (((v6.length : Int) - 1) < (v6.length : Int))) then go0 ((List.modify v6 (((v6.length : Int) - 1)).toNat (fun r => r.set 1 (AV.int (cI v5 (v7 + 1) 0)))), (v7 + 1)) else none else none else none
  else bif (decide (0 ≤ (v7 + 1))) then bif (decide ((((v6.length : Int) + 1) * 24) ≤ 140737488355328)) then go0 ((v6 ++ [[(AV.int (cI v5 v7 0)), (AV.int (cI v5 (v7 + 1) 0)), (AV.int v4)]]), (v7 + 1)) else none else none)
  else bif (decide (0 ≤ (v7 + 1))) then bif (decide ((((v6.length : Int) + 1) * 24) ≤ 140737488355328)) then go0 ((v6 ++ [[(AV.int (cI v5 v7 0)), (AV.int (cI v5 (v7 + 1) 0)), (AV.int v4)]]), (v7 + 1)) else none else none) else none else none else none
  else bif (decide (0 ≤ (v7 + 1))) then bif (decide ((((v6.length : Int) + 1) * 24) ≤ 140737488355328)) then go0 ((v6 ++ [[(AV.int (cI v5 v7 0)), (AV.int (cI v5 (v7 + 1) 0)), (AV.int v4)]]), (v7 + 1)) else none else none))
  else (bif (decide (v8 < 0)) then go0 (v6, (v7 + 1))
  else (bif (decide (0 < (v6.length : Int))) then bif ((decide ((-9223372036854775808) ≤ ((v6.length : Int) - 1))) && (decide (((v6.length : Int) - 1) ≤ 9223372036854775807))) then bif (decide (0 ≤ (imax ((v6.length : Int) - 1) 0))) then bif (decide ((imax ((v6.length : Int) - 1) 0) < (v6.length : Int))) then (bif (decide ((cI v6 (imax ((v6.length : Int) - 1) 0) 1) = (cI v5 v7 0))) then (bif (decide ((cI v6 (imax ((v6.length : Int) - 1) 0) 2) = v8)) then bif (decide (0 ≤ (v7 + 1))) then bif (decide (0 ≤ ((v6.length : Int) - 1))) then bif (decide (((v6.length : Int) - 1) < (v6.length : Int))) then go0 ((List.modify v6 (((v6.length : Int) - 1)).toNat (fun r => r.set 1 (AV.int (cI v5 (v7 + 1) 0)))), (v7 + 1)) else none else none else none
  else bif (decide (0 ≤ (v7 + 1))) then bif (decide ((((v6.length : Int) + 1) * 24) ≤ 140737488355328)) then go0 ((v6 ++ [[(AV.int (cI v5 v7 0)), (AV.int (cI v5 (v7 + 1) 0)), (AV.int v8)]]), (v7 + 1)) else none else none)
  else bif (decide (0 ≤ (v7 + 1))) then bif (decide ((((v6.length : Int) + 1) * 24) ≤ 140737488355328)) then go0 ((v6 ++ [[(AV.int (cI v5 v7 0)), (AV.int (cI v5 (v7 + 1) 0)), (AV.int v8)]]), (v7 + 1)) else none else none) else none else none else none
  else bif (decide (0 ≤ (v7 + 1))) then bif (decide ((((v6.length : Int) + 1) * 24) ≤ 140737488355328)) then go0 ((v6 ++ [[(AV.int (cI v5 v7 0)), (AV.int (cI v5 (v7 + 1) 0)), (AV.int v8)]]), (v7 + 1)) else none else none)))
  else (bif (decide (v8 < 0)) then go0 (v6, (v7 + 1))
  else (bif (decide (0 < (v6.length : Int))) then bif ((decide ((-9223372036854775808) ≤ ((v6.length : Int) - 1))) && (decide (((v6.length : Int) - 1) ≤ 9223372036854775807))) then bif (decide (0 ≤ (imax ((v6.length : Int) - 1) 0))) then bif (decide ((imax ((v6.length : Int) - 1) 0) < (v6.length : Int))) then (bif (decide ((cI v6 (imax ((v6.length : Int) - 1) 0) 1) = (cI v5 v7 0))) then (bif (decide ((cI v6 (imax ((v6.length : Int) - 1) 0) 2) = v8)) then bif (decide (0 ≤ (v7 + 1))) then bif (decide (0 ≤ ((v6.length : Int) - 1))) then bif (decide (((v6.length : Int) - 1) < (v6.length : Int))) then go0 ((List.modify v6 (((v6.length : Int) - 1)).toNat (fun r => r.set 1 (AV.int (cI v5 (v7 + 1) 0)))), (v7 + 1)) else none else none else none
  else bif (decide (0 ≤ (v7 + 1))) then bif (decide ((((v6.length : Int) + 1) * 24) ≤ 140737488355328)) then go0 ((v6 ++ [[(AV.int (cI v5 v7 0)), (AV.int (cI v5 (v7 + 1) 0)), (AV.int v8)]]), (v7 + 1)) else none else none)
  else bif (decide (0 ≤ (v7 + 1))) then bif (decide ((((v6.length : Int) + 1) * 24) ≤ 140737488355328)) then go0 ((v6 ++ [[(AV.int (cI v5 v7 0)), (AV.int (cI v5 (v7 + 1) 0)), (AV.int v8)]]), (v7 + 1)) else none else none) else none else none else none
  else bif (decide (0 ≤ (v7 + 1))) then bif (decide ((((v6.length : Int) + 1) * 24) ≤ 140737488355328)) then go0 ((v6 ++ [[(AV.int (cI v5 v7 0)), (AV.int (cI v5 (v7 + 1) 0)), (AV.int v8)]]), (v7 + 1)) else none else none)))
def ref13_combine_5 (n : Nat) (go0 : ref13_combine_s0 → Option ref13_combine_a) (v3 v4 : Int) (v5 v6 : Lv) (v7 v8 v9 : Int) : Option ref13_combine_a :=
  (bif (decide (0 ≤ v9)) then (bif (decide (v9 = v3)) then (bif (decide (v4 < 0)) then go0 (v6, (v7 + 1))
  else (bif (decide (0 < (v6.length : Int))) then bif ((decide ((-9223372036854775808) ≤ ((v6.length : Int) - 1))) && (decide (((v6.length : Int) - 1) ≤ 9223372036854775807))) then bif (decide (0 ≤ (imax ((v6.length : Int) - 1) 0))) then bif (decide ((imax ((v6.length : Int) - 1) 0) < (v6.length : Int))) then (bif (decide ((cI v6 (imax ((v6.length : Int) - 1) 0) 1) = (cI v5 v7 0))) then (bif (decide ((cI v6 (imax ((v6.length : Int) - 1) 0) 2) = v4)) then bif (decide (0 ≤ (v7 + 1))) then bif (decide (0 ≤ ((v6.length : Int) - 1))) then bif (decide (((v6.length : Int) - 1) < (v6.length : Int))) then go0 ((List.modify v6 (((v6.length : Int) - 1)).toNat (fun r => r.set 1 (AV.int (cI v5 (v7 + 1) 0)))), (v7 + 1)) else none else none else none
  else bif (decide (0 ≤ (v7 + 1))) then bif (decide ((((v6.length : Int) + 1) * 24) ≤ 140737488355328)) then go0 ((v6 ++ [[(AV.int (cI v5 v7 0)), (AV.int (cI v5 (v7 + 1) 0)), (AV.int v4)]]), (v7 + 1)) else none else none)
  else bif (decide (0 ≤ (v7 + 1))) then bif (decide ((((v6.length : Int) + 1) * 24) ≤ 140737488355328)) then go0 ((v6 ++ [[(AV.int (cI v5 v7 0)), (AV.int (cI v5 (v7 + 1) 0)), (AV.int v4)]]), (v7 + 1)) else none else none) else none else none else none
  else bif (decide (0 ≤ (v7 + 1))) then bif (decide ((((v6.length : Int) + 1) * 24) ≤ 140737488355328)) then go0 ((v6 ++ [[(AV.int (cI v5 v7 0)), (AV.int (cI v5 (v7 + 1) 0)), (AV.int v4)]]), (v7 + 1)) else none else none))
  else (bif (decide (v9 < 0)) then go0 (v6, (v7 + 1))
  else (bif (decide (0 < (v6.length : Int))) then bif ((decide ((-9223372036854775808) ≤ ((v6.length : Int) - 1))) && (decide (((v6.length : Int) - 1) ≤ 9223372036854775807))) then bif (decide (0 ≤ (imax ((v6.length : Int) - 1) 0))) then bif (decide ((imax ((v6.length : Int) - 1) 0) < (v6.length : Int))) then (bif (decide ((cI v6 (imax ((v6.length : Int) - 1) 0) 1) = (cI v5 v7 0))) then (bif (decide ((cI v6 (imax ((v6.length : Int) - 1) 0) 2) = v9)) then bif (decide (0 ≤ (v7 + 1))) then bif (decide (0 ≤ ((v6.length : Int) - 1))) then bif (decide (((v6.length : Int) - 1) < (v6.length : Int))) then go0 ((List.modify v6 (((v6.length : Int) - 1)).toNat (fun r => r.set 1 (AV.int (cI v5 (v7 + 1) 0)))), (v7 + 1)) else none else none else none
  else bif (decide (0 ≤ (v7 + 1))) then bif (decide ((((v6.length : Int) + 1) * 24) ≤ 140737488355328)) then go0 ((v6 ++ [[(AV.int (cI v5 v7 0)), (AV.int (cI v5 (v7 + 1) 0)), (AV.int v9)]]), (v7 + 1)) else none else none)
  else bif (decide (0 ≤ (v7 + 1))) then bif (decide ((((v6.length : Int) + 1) * 24) ≤ 140737488355328)) then go0 ((v6 ++ [[(AV.int (cI v5 v7 0)), (AV.int (cI v5 (v7 + 1) 0)), (AV.int v9)]]), (v7 + 1)) else none else none) else none else none else none
  else bif (decide (0 ≤ (v7 + 1))) then bif (decide ((((v6.length : Int) + 1) * 24) ≤ 140737488355328)) then go0 ((v6 ++ [[(AV.int (cI v5 v7 0)), (AV.int (cI v5 (v7 + 1) 0)), (AV.int v9)]]), (v7 + 1)) else none else none)))
  else ref13_combine_6 n go0 v3 v4 v5 v6 v7 v8)
abbrev ref13_combine_9 := @ref13_combine_6
def ref13_combine_8 (n : Nat) (go0 : ref13_combine_s0 → Option ref13_combine_a) (v3 v4 : Int) (v5 v6 : Lv) (v7 v8 v9 : Int) : Option ref13_combine_a :=
  (bif (decide (0 ≤ v9)) then go0 (v6, (v7 + 1))
  else ref13_combine_9 n go0 v3 v4 v5 v6 v7 v8)
abbrev ref13_combine_12 := @ref13_combine_6
def ref13_combine_11 (n : Nat) (go0 : ref13_combine_s0 → Option ref13_combine_a) (v3 v4 : Int) (v5 v6 : Lv) (v7 v8 v9 : Int) : Option ref13_combine_a :=
  (bif (decide (v9 < 0)) then (bif (decide (0 ≤ v9)) then (bif (decide (v9 = v3)) then (bif (decide (v4 < 0)) then go0 (v6, (v7 + 1))
  else (bif (decide (0 < (v6.length : Int))) then bif ((decide ((-9223372036854775808) ≤ ((v6.length : Int) - 1))) && (decide (((v6.length : Int) - 1) ≤ 9223372036854775807))) then bif (decide (0 ≤ (imax ((v6.length : Int) - 1) 0))) then bif (decide ((imax ((v6.length : Int) - 1) 0) < (v6.length : Int))) then (bif (decide ((cI v6 (imax ((v6.length : Int) - 1) 0) 1) = (cI v5 v7 0))) then (bif (decide ((cI v6 (imax ((v6.length : Int) - 1) 0) 2) = v4)) then bif (decide (0 ≤ (v7 + 1))) then bif (decide (0 ≤ ((v6.length : Int) - 1))) then bif (decide (((v6.length : Int) - 1) < (v6.length : Int))) then go0 ((List.modify v6 (((v6.length : Int) - 1)).toNat (fun r => r.set 1 (AV.int (cI v5 (v7 + 1) 0)))), (v7 + 1)) else none else none else none
  else bif (decide (0 ≤ (v7 + 1))) then bif (decide ((((v6.length : Int) + 1) * 24) ≤ 140737488355328)) then go0 ((v6 ++ [[(AV.int (cI v5 v7 0)), (AV.int (cI v5 (v7 + 1) 0)), (AV.int v4)]]), (v7 + 1)) else none else none)
  else bif (decide (0 ≤ (v7 + 1))) then bif (decide ((((v6.length : Int) + 1) * 24) ≤ 140737488355328)) then go0 ((v6 ++ [[(AV.int (cI v5 v7 0)), (AV.int (cI v5 (v7 + 1) 0)), (AV.int v4)]]), (v7 + 1)) else none else none) else none else none else none
  else bif (decide (0 ≤ (v7 + 1))) then bif (decide ((((v6.length : Int) + 1) * 24) ≤ 140737488355328)) then go0 ((v6 ++ [[(AV.int (cI v5 v7 0)), (AV.int (cI v5 (v7 + 1) 0)), (AV.int v4)]]), (v7 + 1)) else none else none))
  else go0 (v6, (v7 + 1)))
  else go0 (v6, (v7 + 1)))
  else ref13_combine_12 n go0 v3 v4 v5 v6 v7 v8)
abbrev ref13_combine_13 := @ref13_combine_6
def ref13_combine_10 (n : Nat) (go0 : ref13_combine_s0 → Option ref13_combine_a) (v2 v3 v4 : Int) (v5 v6 : Lv) (v7 v8 v9 : Int) : Option ref13_combine_a :=
  (bif (decide (v2 = 2)) then ref13_combine_11 n go0 v3 v4 v5 v6 v7 v8 v9
  else ref13_combine_13 n go0 v3 v4 v5 v6 v7 v8)
def ref13_combine_7 (n : Nat) (go0 : ref13_combine_s0 → Option ref13_combine_a) (v2 v3 v4 : Int) (v5 v6 : Lv) (v7 v8 v9 : Int) : Option ref13_combine_a :=
  (bif (decide (v2 = 1)) then ref13_combine_8 n go0 v3 v4 v5 v6 v7 v8 v9
  else ref13_combine_10 n go0 v2 v3 v4 v5 v6 v7 v8 v9)
def ref13_combine_4 (n : Nat) (go0 : ref13_combine_s0 → Option ref13_combine_a) (v2 v3 v4 : Int) (v5 v6 : Lv) (v7 v8 v9 : Int) : Option ref13_combine_a :=
  (bif (decide (v2 = 0)) then ref13_combine_5 n go0 v3 v4 v5 v6 v7 v8 v9
  else ref13_combine_7 n go0 v2 v3 v4 v5 v6 v7 v8 v9)
def ref13_combine_3 (n : Nat) (go0 : ref13_combine_s0 → Option ref13_combine_a) (v0 v1 : Lv) (v2 v3 v4 : Int) (v5 v6 : Lv) (v7 : Int) : Option ref13_combine_a :=
  (bif (decide ((v7 + 1) < (v5.length : Int))) then bif (decide (0 ≤ v7)) then bif (decide (v7 < (v5.length : Int))) then (ref13_holder n v0 (cI v5 v7 0)).bind fun y8 =>
  (ref13_holder n v1 (cI v5 v7 0)).bind fun y9 =>
  ref13_combine_4 n go0 v2 v3 v4 v5 v6 v7 y8 y9 else none else none
  else (ref13_Valid n v6).bind fun y8 =>
  (bif (!y8) then some (([] : Lv), 130)
  else some (v6, 0)))
def ref13_combine_2 (n : Nat) (go0 : ref13_combine_s0 → Option ref13_combine_a) (v0 v1 : Lv) (v2 v3 v4 : Int) (v5 v6 : Lv) (v7 : Int) : Option ref13_combine_a :=
  bif ((decide ((-9223372036854775808) ≤ (v7 + 1))) && (decide ((v7 + 1) ≤ 9223372036854775807))) then ref13_combine_3 n go0 v0 v1 v2 v3 v4 v5 v6 v7 else none
def ref13_combine_1 (n : Nat) (v0 v1 : Lv) (v2 v3 v4 : Int) : Option ref13_combine_a :=
  (ref13_edges n v0 v1).bind fun y5 =>
  (iterF (fun go0 s => ref13_combine_2 n go0 v0 v1 v2 v3 v4 y5 s.1 s.2) n ((([] : Lv), 0) : ref13_combine_s0))
def ref13_combine (n : Nat) (v0 v1 : Lv) (v2 v3 v4 : Int) : Option ref13_combine_a := ref13_combine_1 n v0 v1 v2 v3 v4
def ref13_combine_t : FnT := ⟨[(false, [(.sl (.cons .int (.cons .int (.cons .int .nil))))]), (false, [(.sl (.cons .int (.cons .int (.cons .int .nil))))]), (false, [.int]), (false, [.int]), (false, [.int])], (.tup (.cons (.row 116 (.cons .int (.cons .int (.cons .int .nil)))) (.cons .i .nil))), fun n (s : Lv × Lv × Int × Int × Int) => ref13_combine n s.1 s.2.1 s.2.2.1 s.2.2.2.1 s.2.2.2.2⟩
theorem ref13_combine_ok : ref13_combine_t.ok Tryz.prog 166 := FnT.ok_of (cfg := ⟨[((166, 4, 0), .inv [(.tmprow 13 116 (.cons .int (.cons .int (.cons .int .nil)))), (.tmp 14 .int)])], consD3, [], []⟩) (tab := ref13_edges_T) (mt := mt0) pfit ref13_edges_T_ok mt0_ok (fun s fn hf => by rw [Tryz.func166] at hf; cases hf; kernel_rfl) (fun n s => by kernel_rfl)
def ref13_combine_T : Tab := (166, ref13_combine_t) :: ref13_edges_T
theorem ref13_combine_T_ok : ref13_combine_T.ok Tryz.prog := Tab.ok_cons ref13_combine_ok ref13_edges_T_ok
/-! dialtone/dialtoneref13.Give -/
abbrev ref13_Give_a := Lv × Int
def ref13_Give_1 (n : Nat) (v0 : Lv) (v1 v2 v3 : Int) : Option ref13_Give_a :=
  (ref13_Valid n v0).bind fun y4 =>
  (bif (!y4) then some (([] : Lv), 130)
  else (bif (decide (0 ≤ v1)) then (bif (decide (v1 < v2)) then (bif (!(decide (v2 ≤ 100000000))) then some (([] : Lv), 130)
  else (bif (decide (0 ≤ v3)) then (bif (!(decide (v3 ≤ 7))) then some (([] : Lv), 130)
  else (ref13_combine n v0 (([] : Lv) ++ [[(AV.int v1), (AV.int v2), (AV.int v3)]]) 0 (-1) (-1)).bind fun y5 =>
  some (y5.1, y5.2))
  else some (([] : Lv), 130)))
  else some (([] : Lv), 130))
  else some (([] : Lv), 130)))
def ref13_Give (n : Nat) (v0 : Lv) (v1 v2 v3 : Int) : Option ref13_Give_a := ref13_Give_1 n v0 v1 v2 v3
def ref13_Give_t : FnT := ⟨[(false, [(.sl (.cons .int (.cons .int (.cons .int .nil))))]), (true, [.int, .int]), (false, [.int])], (.tup (.cons (.row 116 (.cons .int (.cons .int (.cons .int .nil)))) (.cons .i .nil))), fun n (s : Lv × Int × Int × Int) => ref13_Give n s.1 s.2.1 s.2.2.1 s.2.2.2⟩
theorem ref13_Give_ok : ref13_Give_t.ok Tryz.prog 164 := FnT.ok_of (cfg := ⟨[], consD3, [], []⟩) (tab := ref13_combine_T) (mt := mt0) pfit ref13_combine_T_ok mt0_ok (fun s fn hf => by rw [Tryz.func164] at hf; cases hf; kernel_rfl) (fun n s => by kernel_rfl)
def ref13_Give_T : Tab := (164, ref13_Give_t) :: ref13_combine_T
theorem ref13_Give_T_ok : ref13_Give_T.ok Tryz.prog := Tab.ok_cons ref13_Give_ok ref13_combine_T_ok
/-! dialtone/dialtoneref13.Take -/
abbrev ref13_Take_a := Lv × Int
def ref13_Take_1 (n : Nat) (v0 : Lv) (v1 v2 : Int) : Option ref13_Take_a :=
  (ref13_Valid n v0).bind fun y3 =>
  (bif (!y3) then some (([] : Lv), 130)
  else (bif (decide (0 ≤ v1)) then (bif (decide (v1 < v2)) then (bif (!(decide (v2 ≤ 100000000))) then some (([] : Lv), 130)
  else (ref13_combine n v0 (([] : Lv) ++ [[(AV.int v1), (AV.int v2), (AV.int 0)]]) 1 (-1) (-1)).bind fun y4 =>
  some (y4.1, y4.2))
  else some (([] : Lv), 130))
  else some (([] : Lv), 130)))
def ref13_Take (n : Nat) (v0 : Lv) (v1 v2 : Int) : Option ref13_Take_a := ref13_Take_1 n v0 v1 v2
def ref13_Take_t : FnT := ⟨[(false, [(.sl (.cons .int (.cons .int (.cons .int .nil))))]), (true, [.int, .int])], (.tup (.cons (.row 116 (.cons .int (.cons .int (.cons .int .nil)))) (.cons .i .nil))), fun n (s : Lv × Int × Int) => ref13_Take n s.1 s.2.1 s.2.2⟩
theorem ref13_Take_ok : ref13_Take_t.ok Tryz.prog 165 := FnT.ok_of (cfg := ⟨[], consD3, [], []⟩) (tab := ref13_Give_T) (mt := mt0) pfit ref13_Give_T_ok mt0_ok (fun s fn hf => by rw [Tryz.func165] at hf; cases hf; kernel_rfl) (fun n s => by kernel_rfl)
def ref13_Take_T : Tab := (165, ref13_Take_t) :: ref13_Give_T
theorem ref13_Take_T_ok : ref13_Take_T.ok Tryz.prog := Tab.ok_cons ref13_Take_ok ref13_Give_T_ok
/-! dialtone/dialtoneref13.Swap -/
abbrev ref13_Swap_a := Lv × Int
def ref13_Swap_1 (n : Nat) (v0 : Lv) (v1 v2 : Int) : Option ref13_Swap_a :=
  (ref13_Valid n v0).bind fun y3 =>
  (bif (!y3) then some (([] : Lv), 130)
  else (bif (decide (0 ≤ v1)) then (bif (!(decide (v1 ≤ 7))) then some (([] : Lv), 130)
  else (bif (decide (0 ≤ v2)) then (bif (!(decide (v2 ≤ 7))) then some (([] : Lv), 130)
  else (ref13_combine n v0 ([] : Lv) 0 v1 v2).bind fun y4 =>
  some (y4.1, y4.2))
  else some (([] : Lv), 130)))
  else some (([] : Lv), 130)))
def ref13_Swap (n : Nat) (v0 : Lv) (v1 v2 : Int) : Option ref13_Swap_a := ref13_Swap_1 n v0 v1 v2
def ref13_Swap_t : FnT := ⟨[(false, [(.sl (.cons .int (.cons .int (.cons .int .nil))))]), (false, [.int]), (false, [.int])], (.tup (.cons (.row 116 (.cons .int (.cons .int (.cons .int .nil)))) (.cons .i .nil))), fun n (s : Lv × Int × Int) => ref13_Swap n s.1 s.2.1 s.2.2⟩
theorem ref13_Swap_ok : ref13_Swap_t.ok Tryz.prog 116 := FnT.ok_of (cfg := ⟨[], consD3, [], []⟩) (tab := ref13_Take_T) (mt := mt0) pfit ref13_Take_T_ok mt0_ok (fun s fn hf => by rw [Tryz.func116] at hf; cases hf; kernel_rfl) (fun n s => by kernel_rfl)
def ref13_Swap_T : Tab := (116, ref13_Swap_t) :: ref13_Take_T
theorem ref13_Swap_T_ok : ref13_Swap_T.ok Tryz.prog := Tab.ok_cons ref13_Swap_ok ref13_Take_T_ok
/-! dialtone/dialtoneref13.Only -/
abbrev ref13_Only_a := Lv × Int
def ref13_Only_1 (n : Nat) (v0 : Lv) (v1 v2 : Int) : Option ref13_Only_a :=
  (ref13_Valid n v0).bind fun y3 =>
  (bif (!y3) then some (([] : Lv), 130)
  else (bif (decide (0 ≤ v1)) then (bif (decide (v1 < v2)) then (bif (!(decide (v2 ≤ 100000000))) then some (([] : Lv), 130)
  else (ref13_combine n v0 (([] : Lv) ++ [[(AV.int v1), (AV.int v2), (AV.int 0)]]) 2 (-1) (-1)).bind fun y4 =>
  some (y4.1, y4.2))
  else some (([] : Lv), 130))
  else some (([] : Lv), 130)))
def ref13_Only (n : Nat) (v0 : Lv) (v1 v2 : Int) : Option ref13_Only_a := ref13_Only_1 n v0 v1 v2
def ref13_Only_t : FnT := ⟨[(false, [(.sl (.cons .int (.cons .int (.cons .int .nil))))]), (true, [.int, .int])], (.tup (.cons (.row 116 (.cons .int (.cons .int (.cons .int .nil)))) (.cons .i .nil))), fun n (s : Lv × Int × Int) => ref13_Only n s.1 s.2.1 s.2.2⟩
theorem ref13_Only_ok : ref13_Only_t.ok Tryz.prog 121 := FnT.ok_of (cfg := ⟨[], consD3, [], []⟩) (tab := ref13_Swap_T) (mt := mt0) pfit ref13_Swap_T_ok mt0_ok (fun s fn hf => by rw [Tryz.func121] at hf; cases hf; kernel_rfl) (fun n s => by kernel_rfl)
def ref13_Only_T : Tab := (121, ref13_Only_t) :: ref13_Swap_T
theorem ref13_Only_T_ok : ref13_Only_T.ok Tryz.prog := Tab.ok_cons ref13_Only_ok ref13_Swap_T_ok
/-! dialtone/dialtoneref13.Overlay -/
abbrev ref13_Overlay_a := Lv × Int
def ref13_Overlay_1 (n : Nat) (v0 v1 : Lv) : Option ref13_Overlay_a :=
  (ref13_Valid n v0).bind fun y2 =>
  (bif (!y2) then some (([] : Lv), 130)
  else (ref13_Valid n v1).bind fun y3 =>
  (bif (!y3) then some (([] : Lv), 130)
  else (ref13_combine n v0 v1 0 (-1) (-1)).bind fun y4 =>
  some (y4.1, y4.2)))
def ref13_Overlay (n : Nat) (v0 v1 : Lv) : Option ref13_Overlay_a := ref13_Overlay_1 n v0 v1
def ref13_Overlay_t : FnT := ⟨[(false, [(.sl (.cons .int (.cons .int (.cons .int .nil))))]), (false, [(.sl (.cons .int (.cons .int (.cons .int .nil))))])], (.tup (.cons (.row 116 (.cons .int (.cons .int (.cons .int .nil)))) (.cons .i .nil))), fun n (s : Lv × Lv) => ref13_Overlay n s.1 s.2⟩
theorem ref13_Overlay_ok : ref13_Overlay_t.ok Tryz.prog 122 := FnT.ok_of (cfg := ⟨[], consD3, [], []⟩) (tab := ref13_Only_T) (mt := mt0) pfit ref13_Only_T_ok mt0_ok (fun s fn hf => by rw [Tryz.func122] at hf; cases hf; kernel_rfl) (fun n s => by kernel_rfl)
def ref13_Overlay_T : Tab := (122, ref13_Overlay_t) :: ref13_Only_T
theorem ref13_Overlay_T_ok : ref13_Overlay_T.ok Tryz.prog := Tab.ok_cons ref13_Overlay_ok ref13_Only_T_ok
end
end Go.Proofs.YtgckmifmjiklmaaGreat
