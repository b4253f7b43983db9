/-
  Plain functions for functions of the program, each with its contract (printed by decomp.py).
-/
import Derived.Test.YtgckmifmjiklmaaGreatSxP
import Derived.Test.YtgckmifmjiklmaaGreatSx25
import Derived.Test.YtgckmifmjiklmaaGreatD8
set_option linter.unusedSimpArgs false
set_option linter.unusedVariables false
set_option maxRecDepth 100000
namespace Go.Proofs.YtgckmifmjiklmaaGreat
open Go Go.Sx
noncomputable section
def consD9 : List Nat := [11, 12, 13, 14, 15, 16, 17, 18, 19, 20, 21, 22, 23, 24, 25, 26, 27, 28, 29, 30, 31, 32, 33, 34, 35, 36, 37, 38, 40, 46, 47, 51, 52, 54, 55, 56, 57, 58, 59, 61, 62, 63, 64, 66, 67, 69, 80, 83, 87, 90, 91, 92, 95, 96, 115, 116, 121, 122, 127, 128, 164, 165, 166, 197, 198, 201, 204, 205, 216, 229, 1000012, 1000056, 1000197, 1000216, 1000229]
/-! dialtone/merge.isPossible -/
abbrev merge_isPossible_a := Bool
def merge_isPossible_1 (n : Nat) (v0 v1 : Int) (v2 v3 v4 v5 : Lv) (v6 : Int) : Option merge_isPossible_a :=
  (merge_Run n v0 v1 v2 v3 v4 v5).bind fun y7 =>
  (bif (decide (y7.2.2.2.2.2.2 = 0)) then (bif (decide (0 ≤ v6)) then some (decide (v6 ≤ 20000000))
  else some false)
  else some false)
def merge_isPossible (n : Nat) (v0 v1 : Int) (v2 v3 v4 v5 : Lv) (v6 : Int) : Option merge_isPossible_a := merge_isPossible_1 n v0 v1 v2 v3 v4 v5 v6
def merge_isPossible_t : FnT := ⟨[(true, [.int, .int, (.sl (.cons .int (.cons .int (.cons .int .nil)))), (.sl (.cons .int .nil)), (.sl (.cons .int .nil))]), (false, [(.sl (.cons .int (.cons .int (.cons .int (.cons .int (.cons .int (.cons .int (.cons .int (.cons .int .nil)))))))))]), (false, [.int])], .b, fun n (s : Int × Int × Lv × Lv × Lv × Lv × Int) => merge_isPossible n s.1 s.2.1 s.2.2.1 s.2.2.2.1 s.2.2.2.2.1 s.2.2.2.2.2.1 s.2.2.2.2.2.2⟩
theorem merge_isPossible_ok : merge_isPossible_t.ok Tryz.prog 80 := FnT.ok_of (cfg := ⟨[], consD9, [], []⟩) (tab := merge_Run_T) (mt := mt0) pfit merge_Run_T_ok mt0_ok (fun s fn hf => by rw [Tryz.func80] at hf; cases hf; kernel_rfl) (fun n s => by kernel_rfl)
def merge_isPossible_T : Tab := (80, merge_isPossible_t) :: merge_Run_T
theorem merge_isPossible_T_ok : merge_isPossible_T.ok Tryz.prog := Tab.ok_cons merge_isPossible_ok merge_Run_T_ok
/-! dialtone/merge.successor -/
abbrev merge_successor_a := Int
abbrev merge_successor_s0 := Int × Int
def merge_successor_2 (n : Nat) (go0 : merge_successor_s0 → Option merge_successor_a) (v0 : Lv) (v2 v3 v4 v5 : Int) : Option merge_successor_a :=
  (bif (decide (v4 < (v0.length : Int))) then bif (decide (0 ≤ v4)) then (bif (decide (v3 < (cI v0 v4 1))) then some v5
  else (bif (!(decide ((cI v0 v4 2) = v5))) then bif ((decide ((-9223372036854775808) ≤ (v4 + 1))) && (decide ((v4 + 1) ≤ 9223372036854775807))) then go0 ((v4 + 1), v5) else none
  else bif ((decide ((-9223372036854775808) ≤ ((cI v0 v4 6) - 1))) && (decide (((cI v0 v4 6) - 1) ≤ 9223372036854775807))) then (bif (decide ((cI v0 v4 5) ≤ v2)) then (bif (decide ((cI v0 v4 0) = 1)) then bif ((decide ((-9223372036854775808) ≤ (v4 + 1))) && (decide ((v4 + 1) ≤ 9223372036854775807))) then go0 ((v4 + 1), (cI v0 v4 3)) else none
  else (bif (!(decide ((cI v0 v4 0) = 4))) then (bif (decide (v2 ≤ ((cI v0 v4 6) - 1))) then bif ((decide ((-9223372036854775808) ≤ (v4 + 1))) && (decide ((v4 + 1) ≤ 9223372036854775807))) then go0 ((v4 + 1), (cI v0 v4 3)) else none
  else (bif (decide ((cI v0 v4 0) = 3)) then bif ((decide ((-9223372036854775808) ≤ (v4 + 1))) && (decide ((v4 + 1) ≤ 9223372036854775807))) then go0 ((v4 + 1), (cI v0 v4 4)) else none
  else bif ((decide ((-9223372036854775808) ≤ (v4 + 1))) && (decide ((v4 + 1) ≤ 9223372036854775807))) then go0 ((v4 + 1), v5) else none))
  else bif ((decide ((-9223372036854775808) ≤ (v4 + 1))) && (decide ((v4 + 1) ≤ 9223372036854775807))) then go0 ((v4 + 1), v5) else none))
  else (bif (decide ((cI v0 v4 0) = 1)) then bif ((decide ((-9223372036854775808) ≤ (v4 + 1))) && (decide ((v4 + 1) ≤ 9223372036854775807))) then go0 ((v4 + 1), (cI v0 v4 3)) else none
  else (bif (!(decide ((cI v0 v4 0) = 4))) then (bif (decide ((cI v0 v4 0) = 3)) then bif ((decide ((-9223372036854775808) ≤ (v4 + 1))) && (decide ((v4 + 1) ≤ 9223372036854775807))) then go0 ((v4 + 1), (cI v0 v4 4)) else none
  else bif ((decide ((-9223372036854775808) ≤ (v4 + 1))) && (decide ((v4 + 1) ≤ 9223372036854775807))) then go0 ((v4 + 1), v5) else none)
  else bif ((decide ((-9223372036854775808) ≤ (v4 + 1))) && (decide ((v4 + 1) ≤ 9223372036854775807))) then go0 ((v4 + 1), v5) else none))) else none)) else none
  else some v5)
def merge_successor_1 (n : Nat) (v0 : Lv) (v1 v2 v3 : Int) : Option merge_successor_a :=
  (iterF (fun go0 s => merge_successor_2 n go0 v0 v2 v3 s.1 s.2) n ((0, v1) : merge_successor_s0))
def merge_successor (n : Nat) (v0 : Lv) (v1 v2 v3 : Int) : Option merge_successor_a := merge_successor_1 n v0 v1 v2 v3
def merge_successor_t : FnT := ⟨[(false, [(.sl (.cons .int (.cons .int (.cons .int (.cons .int (.cons .int (.cons .int (.cons .int (.cons .int .nil)))))))))]), (false, [.int]), (false, [.int]), (false, [.int])], .i, fun n (s : Lv × Int × Int × Int) => merge_successor n s.1 s.2.1 s.2.2.1 s.2.2.2⟩
theorem merge_successor_ok : merge_successor_t.ok Tryz.prog 92 := FnT.ok_of (cfg := ⟨[((130, 1, 5), .inv [(.tmp 8 .int), (.cell 0 0 .int)])], consD9, [], []⟩) (tab := merge_isPossible_T) (mt := mt0) pfit merge_isPossible_T_ok mt0_ok (fun s fn hf => by rw [Tryz.func92] at hf; cases hf; kernel_rfl) (fun n s => by kernel_rfl)
def merge_successor_T : Tab := (92, merge_successor_t) :: merge_isPossible_T
theorem merge_successor_T_ok : merge_successor_T.ok Tryz.prog := Tab.ok_cons merge_successor_ok merge_isPossible_T_ok
/-! dialtone/merge.Successor -/
abbrev merge_Successor_a := Int × Int
def merge_Successor_1 (n : Nat) (v0 v1 : Int) (v2 v3 v4 v5 : Lv) (v6 v7 v8 : Int) : Option merge_Successor_a :=
  (merge_isPossible n v0 v1 v2 v3 v4 v5 v8).bind fun y9 =>
  (bif (!y9) then some (0, 420)
  else (bif (decide (0 ≤ v6)) then (bif (!(decide (v6 ≤ 7))) then some (0, 420)
  else (bif (decide (0 ≤ v7)) then (bif (!(decide (v7 ≤ 99999999))) then some (0, 420)
  else (merge_successor n v5 v6 v7 v8).bind fun y10 =>
  some (y10, 0))
  else some (0, 420)))
  else some (0, 420)))
def merge_Successor (n : Nat) (v0 v1 : Int) (v2 v3 v4 v5 : Lv) (v6 v7 v8 : Int) : Option merge_Successor_a := merge_Successor_1 n v0 v1 v2 v3 v4 v5 v6 v7 v8
def merge_Successor_t : FnT := ⟨[(true, [.int, .int, (.sl (.cons .int (.cons .int (.cons .int .nil)))), (.sl (.cons .int .nil)), (.sl (.cons .int .nil))]), (false, [(.sl (.cons .int (.cons .int (.cons .int (.cons .int (.cons .int (.cons .int (.cons .int (.cons .int .nil)))))))))]), (false, [.int]), (false, [.int]), (false, [.int])], (.tup (.cons .i (.cons .i .nil))), fun n (s : Int × Int × Lv × Lv × Lv × Lv × Int × Int × Int) => merge_Successor n s.1 s.2.1 s.2.2.1 s.2.2.2.1 s.2.2.2.2.1 s.2.2.2.2.2.1 s.2.2.2.2.2.2.1 s.2.2.2.2.2.2.2.1 s.2.2.2.2.2.2.2.2⟩
theorem merge_Successor_ok : merge_Successor_t.ok Tryz.prog 29 := FnT.ok_of (cfg := ⟨[], consD9, [], []⟩) (tab := merge_successor_T) (mt := mt0) pfit merge_successor_T_ok mt0_ok (fun s fn hf => by rw [Tryz.func29] at hf; cases hf; kernel_rfl) (fun n s => by kernel_rfl)
def merge_Successor_T : Tab := (29, merge_Successor_t) :: merge_successor_T
theorem merge_Successor_T_ok : merge_Successor_T.ok Tryz.prog := Tab.ok_cons merge_Successor_ok merge_successor_T_ok
/-! dialtone/merge.Claim -/
abbrev merge_Claim_a := Int × Int × Int × Int × Int × Bool × Bool
def merge_Claim_1 (n : Nat) (v0 v1 : Int) (v2 v3 v4 v5 : Lv) (v6 v7 v8 v9 v10 : Int) (v11 : Bool) (v12 : Int) : Option merge_Claim_a :=
  (merge_isPossible n v0 v1 v2 v3 v4 v5 v12).bind fun y13 =>
  (bif (!y13) then some (0, 0, 0, 0, 0, false, false)
  else (bif (decide (0 ≤ v7)) then (bif (!(decide (v7 ≤ 7))) then some (0, 0, 0, 0, 0, false, false)
  else (bif (decide (0 ≤ v8)) then (bif (!(decide (v8 ≤ 7))) then some (0, 0, 0, 0, 0, false, false)
  else (bif (decide (0 ≤ v6)) then (bif (!(decide (v6 ≤ 99999999))) then some (0, 0, 0, 0, 0, false, false)
  else (merge_successor n v5 v7 v6 v12).bind fun y14 =>
  (merge_successor n v5 v8 v6 v12).bind fun y15 =>
  (bif (decide (y14 = y15)) then some (0, 0, 0, 0, 0, false, false)
  else some (v6, y14, y15, v9, v10, v11, true)))
  else some (0, 0, 0, 0, 0, false, false)))
  else some (0, 0, 0, 0, 0, false, false)))
  else some (0, 0, 0, 0, 0, false, false)))
def merge_Claim (n : Nat) (v0 v1 : Int) (v2 v3 v4 v5 : Lv) (v6 v7 v8 v9 v10 : Int) (v11 : Bool) (v12 : Int) : Option merge_Claim_a := merge_Claim_1 n v0 v1 v2 v3 v4 v5 v6 v7 v8 v9 v10 v11 v12
def merge_Claim_t : FnT := ⟨[(true, [.int, .int, (.sl (.cons .int (.cons .int (.cons .int .nil)))), (.sl (.cons .int .nil)), (.sl (.cons .int .nil))]), (false, [(.sl (.cons .int (.cons .int (.cons .int (.cons .int (.cons .int (.cons .int (.cons .int (.cons .int .nil)))))))))]), (true, [.int, .int, .int, .int, .int, .bool]), (false, [.int])], (.tup (.cons (.agg (.cons .i (.cons .i (.cons .i (.cons .i (.cons .i (.cons .b .nil))))))) (.cons .b .nil))), fun n (s : Int × Int × Lv × Lv × Lv × Lv × Int × Int × Int × Int × Int × Bool × Int) => merge_Claim n s.1 s.2.1 s.2.2.1 s.2.2.2.1 s.2.2.2.2.1 s.2.2.2.2.2.1 s.2.2.2.2.2.2.1 s.2.2.2.2.2.2.2.1 s.2.2.2.2.2.2.2.2.1 s.2.2.2.2.2.2.2.2.2.1 s.2.2.2.2.2.2.2.2.2.2.1 s.2.2.2.2.2.2.2.2.2.2.2.1 s.2.2.2.2.2.2.2.2.2.2.2.2⟩
theorem merge_Claim_ok : merge_Claim_t.ok Tryz.prog 40 := FnT.ok_of (cfg := ⟨[], consD9, [], []⟩) (tab := merge_Successor_T) (mt := mt0) pfit merge_Successor_T_ok mt0_ok (fun s fn hf => by rw [Tryz.func40] at hf; cases hf; kernel_rfl) (fun n s => by kernel_rfl)
def merge_Claim_T : Tab := (40, merge_Claim_t) :: merge_Successor_T
theorem merge_Claim_T_ok : merge_Claim_T.ok Tryz.prog := Tab.ok_cons merge_Claim_ok merge_Successor_T_ok
/-! dialtone/merge.At -/
abbrev merge_At_a := Int × Int × Lv × Lv × Lv × Int
abbrev merge_At_s0 := Int × Lv
def merge_At_2 (n : Nat) (go0 : merge_At_s0 → Option merge_At_a) (v0 v1 : Int) (v2 v3 v4 v5 : Lv) (v6 v8 : Int) (v9 : Lv) : Option merge_At_a :=
  (bif (decide (v8 < (v5.length : Int))) then bif (decide (0 ≤ v8)) then (bif (decide (v6 < (cI v5 v8 1))) then (merge_Run n v0 v1 v2 v3 v4 v9).bind fun y10 =>
  some (y10.1, y10.2.1, y10.2.2.1, y10.2.2.2.1, y10.2.2.2.2.1, 0)
  else bif (decide ((((v9.length : Int) + 1) * 64) ≤ 140737488355328)) then bif ((decide ((-9223372036854775808) ≤ (v8 + 1))) && (decide ((v8 + 1) ≤ 9223372036854775807))) then go0 ((v8 + 1), (v9 ++ [[(AV.int (cI v5 v8 0)), (AV.int (cI v5 v8 1)), (AV.int (cI v5 v8 2)), (AV.int (cI v5 v8 3)), (AV.int (cI v5 v8 4)), (AV.int (cI v5 v8 5)), (AV.int (cI v5 v8 6)), (AV.int (cI v5 v8 7))]])) else none else none) else none
  else (merge_Run n v0 v1 v2 v3 v4 v9).bind fun y10 =>
  some (y10.1, y10.2.1, y10.2.2.1, y10.2.2.2.1, y10.2.2.2.2.1, 0))
def merge_At_1 (n : Nat) (v0 v1 : Int) (v2 v3 v4 v5 : Lv) (v6 : Int) : Option merge_At_a :=
  (merge_isPossible n v0 v1 v2 v3 v4 v5 v6).bind fun y7 =>
  (bif (!y7) then some (0, 0, ([] : Lv), ([] : Lv), ([] : Lv), 420)
  else (iterF (fun go0 s => merge_At_2 n go0 v0 v1 v2 v3 v4 v5 v6 s.1 s.2) n ((0, ([] : Lv)) : merge_At_s0)))
def merge_At (n : Nat) (v0 v1 : Int) (v2 v3 v4 v5 : Lv) (v6 : Int) : Option merge_At_a := merge_At_1 n v0 v1 v2 v3 v4 v5 v6
def merge_At_t : FnT := ⟨[(true, [.int, .int, (.sl (.cons .int (.cons .int (.cons .int .nil)))), (.sl (.cons .int .nil)), (.sl (.cons .int .nil))]), (false, [(.sl (.cons .int (.cons .int (.cons .int (.cons .int (.cons .int (.cons .int (.cons .int (.cons .int .nil)))))))))]), (false, [.int])], (.tup (.cons (.agg (.cons .i (.cons .i (.cons (.row 116 (.cons .int (.cons .int (.cons .int .nil)))) (.cons (.row 3 (.cons .int .nil)) (.cons (.row 3 (.cons .int .nil)) .nil)))))) (.cons .i .nil))), fun n (s : Int × Int × Lv × Lv × Lv × Lv × Int) => merge_At n s.1 s.2.1 s.2.2.1 s.2.2.2.1 s.2.2.2.2.1 s.2.2.2.2.2.1 s.2.2.2.2.2.2⟩
theorem merge_At_ok : merge_At_t.ok Tryz.prog 24 := FnT.ok_of (cfg := ⟨[((130, 1, 6), .inv [(.tmp 8 .int), (.cellrow 4 0 41 (.cons .int (.cons .int (.cons .int (.cons .int (.cons .int (.cons .int (.cons .int (.cons .int .nil)))))))))])], consD9, [], []⟩) (tab := merge_Claim_T) (mt := mt0) pfit merge_Claim_T_ok mt0_ok (fun s fn hf => by rw [Tryz.func24] at hf; cases hf; kernel_rfl) (fun n s => by kernel_rfl)
def merge_At_T : Tab := (24, merge_At_t) :: merge_Claim_T
theorem merge_At_T_ok : merge_At_T.ok Tryz.prog := Tab.ok_cons merge_At_ok merge_Claim_T_ok
end
end Go.Proofs.YtgckmifmjiklmaaGreat
