/-
  Plain functions for functions of the program, each with its contract (printed by decomp.py).
-/
import Derived.Test.YtgckmifmjiklmaaSxP
import Derived.Test.YtgckmifmjiklmaaSx25
import Derived.Test.YtgckmifmjiklmaaD8
set_option linter.unusedSimpArgs false
set_option linter.unusedVariables false
set_option maxRecDepth 100000
namespace Go.Proofs.Ytgckmifmjiklmaa
open Go Go.Sx
noncomputable section
def consD9 : List Nat := [5, 6, 7, 8, 9, 10, 11, 12, 14, 15, 16, 17, 18, 19, 20, 22, 23, 24, 25, 26, 27, 29, 30, 31, 32, 33, 41, 44, 47, 50, 57, 58, 66, 67, 73, 74, 75, 77, 82, 87, 88, 91, 94, 95, 1000006, 1000026, 1000082, 1000087, 1000095]
/-! dialtone/merge.isPossible -/
abbrev merge_isPossible_a := Bool
def merge_isPossible_1 (n : Nat) (v0 v1 : Int) (v2 v3 v4 v5 : Lv) (v6 : Int) : Option merge_isPossible_a :=
  (merge_Run n v0 v1 v2 v3 v4 v5).bind fun y7 =>
  (bif (decide (y7.2.2.2.2.2.2 = 0)) then (bif (decide (0 ≤ v6)) then some (decide (v6 ≤ 20000000))
  else some false)
  else some false)
def merge_isPossible (n : Nat) (v0 v1 : Int) (v2 v3 v4 v5 : Lv) (v6 : Int) : Option merge_isPossible_a := merge_isPossible_1 n v0 v1 v2 v3 v4 v5 v6
def merge_isPossible_t : FnT := ⟨[(true, [.int, .int, (.sl (.cons .int (.cons .int (.cons .int .nil)))), (.sl (.cons .int .nil)), (.sl (.cons .int .nil))]), (false, [(.sl (.cons .int (.cons .int (.cons .int (.cons .int (.cons .int (.cons .int (.cons .int (.cons .int .nil)))))))))]), (false, [.int])], .b, fun n (s : Int × Int × Lv × Lv × Lv × Lv × Int) => merge_isPossible n s.1 s.2.1 s.2.2.1 s.2.2.2.1 s.2.2.2.2.1 s.2.2.2.2.2.1 s.2.2.2.2.2.2⟩
theorem merge_isPossible_ok : merge_isPossible_t.ok Try.prog 41 := FnT.ok_of (cfg := ⟨[], consD9, [], []⟩) (tab := merge_Run_T) (mt := mt0) pfit merge_Run_T_ok mt0_ok (fun s fn hf => by rw [Try.func41] at hf; cases hf; kernel_rfl) (fun n s => by kernel_rfl)
def merge_isPossible_T : Tab := (41, merge_isPossible_t) :: merge_Run_T
theorem merge_isPossible_T_ok : merge_isPossible_T.ok Try.prog := Tab.ok_cons merge_isPossible_ok merge_Run_T_ok
/-! dialtone/merge.successor -/
abbrev merge_successor_a := Int
abbrev merge_successor_s0 := Int × Int
def merge_successor_2 (n : Nat) (go0 : merge_successor_s0 → Option merge_successor_a) (v0 : Lv) (v2 v3 v4 v5 : Int) : Option merge_successor_a :=
  (bif (decide (v4 < (v0.length : Int))) then bif (decide (0 ≤ v4)) then (bif (decide (v3 < (cI v0 v4 1))) then some v5
  else (bif (!(decide ((cI v0 v4 2) = v5))) then bif ((decide ((-9223372036854775808) ≤ (v4 + 1))) && (decide ((v4 + 1) ≤ 9223372036854775807))) then go0 ((v4 + 1), v5) else none
  else bif ((decide ((-9223372036854775808) ≤ ((cI v0 v4 6) - 1))) && (decide (((cI v0 v4 6) - 1) ≤ 9223372036854775807))) then (bif (decide ((cI v0 v4 5) ≤ v2)) then (bif (decide ((cI v0 v4 0) = 1)) then bif ((decide ((-9223372036854775808) ≤ (v4 + 1))) && (decide ((v4 + 1) ≤ 9223372036854775807))) then go0 ((v4 + 1), (cI v0 v4 3)) else none
  else (bif (!(decide ((cI v0 v4 0) = 4))) then (bif (decide (v2 ≤ ((cI v0 v4 6) - 1))) then bif ((decide ((-9223372036854775808) ≤ (v4 + 1))) && (decide ((v4 + 1) ≤ 9223372036854775807))) then go0 ((v4 + 1), (cI v0 v4 3)) else none
  else (bif (decide ((cI v0 v4 0) = 3)) then bif ((decide ((-9223372036854775808) ≤ (v4 + 1))) && (decide ((v4 + 1) ≤ 9223372036854775807))) then go0 ((v4 + 1), (cI v0 v4 4)) else none
  else bif ((decide ((-9223372036854775808) ≤ (v4 + 1))) && (decide ((v4 + 1) ≤ 9223372036854775807))) then go0 ((v4 + 1), v5) else none))
  else bif ((decide ((-9223372036854775808) ≤ (v4 + 1))) && (decide ((v4 + 1) ≤ 9223372036854775807))) then go0 ((v4 + 1), v5) else none))
  else (bif (decide ((cI v0 v4 0) = 1)) then bif ((decide ((-9223372036854775808) ≤ (v4 + 1))) && (decide ((v4 + 1) ≤ 9223372036854775807))) then go0 ((v4 + 1), (cI v0 v4 3)) else none
  else (bif (!(decide ((cI v0 v4 0) = 4))) then (bif (decide ((cI v0 v4 0) = 3)) then bif ((decide ((-9223372036854775808) ≤ (v4 + 1))) && (decide ((v4 + 1) ≤ 9223372036854775807))) then go0 ((v4 + 1), (cI v0 v4 4)) else none
  else bif ((decide ((-9223372036854775808) ≤ (v4 + 1))) && (decide ((v4 + 1) ≤ 9223372036854775807))) then go0 ((v4 + 1), v5) else none)
  else bif ((decide ((-9223372036854775808) ≤ (v4 + 1))) && (decide ((v4 + 1) ≤ 9223372036854775807))) then go0 ((v4 + 1), v5) else none))) else none)) else none
  else some v5)
def merge_successor_1 (n : Nat) (v0 : Lv) (v1 v2 v3 : Int) : Option merge_successor_a :=
  (iterF (fun go0 s => merge_successor_2 n go0 v0 v2 v3 s.1 s.2) n ((0, v1) : merge_successor_s0))
def merge_successor (n : Nat) (v0 : Lv) (v1 v2 v3 : Int) : Option merge_successor_a := merge_successor_1 n v0 v1 v2 v3
def merge_successor_t : FnT := ⟨[(false, [(.sl (.cons .int (.cons .int (.cons .int (.cons .int (.cons .int (.cons .int (.cons .int (.cons .int .nil)))))))))]), (false, [.int]), (false, [.int]), (false, [.int])], .i, fun n (s : Lv × Int × Int × Int) => merge_successor n s.1 s.2.1 s.2.2.1 s.2.2.2⟩
theorem merge_successor_ok : merge_successor_t.ok Try.prog 44 := FnT.ok_of (cfg := ⟨[((84, 1, 5), .inv [(.tmp 8 .int), (.cell 0 0 .int)])], consD9, [], []⟩) (tab := merge_isPossible_T) (mt := mt0) pfit merge_isPossible_T_ok mt0_ok (fun s fn hf => by rw [Try.func44] at hf; cases hf; kernel_rfl) (fun n s => by kernel_rfl)
def merge_successor_T : Tab := (44, merge_successor_t) :: merge_isPossible_T
theorem merge_successor_T_ok : merge_successor_T.ok Try.prog := Tab.ok_cons merge_successor_ok merge_isPossible_T_ok
/-! dialtone/merge.Successor -/
abbrev merge_Successor_a := Int × Int
def merge_Successor_1 (n : Nat) (v0 v1 : Int) (v2 v3 v4 v5 : Lv) (v6 v7 v8 : Int) : Option merge_Successor_a :=
  (merge_isPossible n v0 v1 v2 v3 v4 v5 v8).bind fun y9 =>
  (bif (!y9) then some (0, 420)
  else (bif (decide (0 ≤ v6)) then (bif (!(decide (v6 ≤ 7))) then some (0, 420)
  else (bif (decide (0 ≤ v7)) then (bif (!(decide (v7 ≤ 99999999))) then some (0, 420)
  else (merge_successor n v5 v6 v7 v8).bind fun y10 =>
  some (y10, 0))
  else some (0, 420)))
  else some (0, 420)))
def merge_Successor (n : Nat) (v0 v1 : Int) (v2 v3 v4 v5 : Lv) (v6 v7 v8 : Int) : Option merge_Successor_a := merge_Successor_1 n v0 v1 v2 v3 v4 v5 v6 v7 v8
def merge_Successor_t : FnT := ⟨[(true, [.int, .int, (.sl (.cons .int (.cons .int (.cons .int .nil)))), (.sl (.cons .int .nil)), (.sl (.cons .int .nil))]), (false, [(.sl (.cons .int (.cons .int (.cons .int (.cons .int (.cons .int (.cons .int (.cons .int (.cons .int .nil)))))))))]), (false, [.int]), (false, [.int]), (false, [.int])], (.tup (.cons .i (.cons .i .nil))), fun n (s : Int × Int × Lv × Lv × Lv × Lv × Int × Int × Int) => merge_Successor n s.1 s.2.1 s.2.2.1 s.2.2.2.1 s.2.2.2.2.1 s.2.2.2.2.2.1 s.2.2.2.2.2.2.1 s.2.2.2.2.2.2.2.1 s.2.2.2.2.2.2.2.2⟩
theorem merge_Successor_ok : merge_Successor_t.ok Try.prog 50 := FnT.ok_of (cfg := ⟨[], consD9, [], []⟩) (tab := merge_successor_T) (mt := mt0) pfit merge_successor_T_ok mt0_ok (fun s fn hf => by rw [Try.func50] at hf; cases hf; kernel_rfl) (fun n s => by kernel_rfl)
def merge_Successor_T : Tab := (50, merge_Successor_t) :: merge_successor_T
theorem merge_Successor_T_ok : merge_Successor_T.ok Try.prog := Tab.ok_cons merge_Successor_ok merge_successor_T_ok
/-! dialtone/merge.Claim -/
abbrev merge_Claim_a := Int × Int × Int × Int × Int × Bool × Bool
def merge_Claim_1 (n : Nat) (v0 v1 : Int) (v2 v3 v4 v5 : Lv) (v6 v7 v8 v9 v10 : Int) (v11 : Bool) (v12 : Int) : Option merge_Claim_a :=
  (merge_isPossible n v0 v1 v2 v3 v4 v5 v12).bind fun y13 =>
  (bif (!y13) then some (0, 0, 0, 0, 0, false, false)
  else (bif (decide (0 ≤ v7)) then (bif (!(decide (v7 ≤ 7))) then some (0, 0, 0, 0, 0, false, false)
  else (bif (decide (0 ≤ v8)) then (bif (!(decide (v8 ≤ 7))) then some (0, 0, 0, 0, 0, false, false)
  else (bif (decide (0 ≤ v6)) then (bif (!(decide (v6 ≤ 99999999))) then some (0, 0, 0, 0, 0, false, false)
  else (merge_successor n v5 v7 v6 v12).bind fun y14 =>
  (merge_successor n v5 v8 v6 v12).bind fun y15 =>
  (bif (decide (y14 = y15)) then some (0, 0, 0, 0, 0, false, false)
  else some (v6, y14, y15, v9, v10, v11, true)))
  else some (0, 0, 0, 0, 0, false, false)))
  else some (0, 0, 0, 0, 0, false, false)))
  else some (0, 0, 0, 0, 0, false, false)))
def merge_Claim (n : Nat) (v0 v1 : Int) (v2 v3 v4 v5 : Lv) (v6 v7 v8 v9 v10 : Int) (v11 : Bool) (v12 : Int) : Option merge_Claim_a := merge_Claim_1 n v0 v1 v2 v3 v4 v5 v6 v7 v8 v9 v10 v11 v12
def merge_Claim_t : FnT := ⟨[(true, [.int, .int, (.sl (.cons .int (.cons .int (.cons .int .nil)))), (.sl (.cons .int .nil)), (.sl (.cons .int .nil))]), (false, [(.sl (.cons .int (.cons .int (.cons .int (.cons .int (.cons .int (.cons .int (.cons .int (.cons .int .nil)))))))))]), (true, [.int, .int, .int, .int, .int, .bool]), (false, [.int])], (.tup (.cons (.agg (.cons .i (.cons .i (.cons .i (.cons .i (.cons .i (.cons .b .nil))))))) (.cons .b .nil))), fun n (s : Int × Int × Lv × Lv × Lv × Lv × Int × Int × Int × Int × Int × Bool × Int) => merge_Claim n s.1 s.2.1 s.2.2.1 s.2.2.2.1 s.2.2.2.2.1 s.2.2.2.2.2.1 s.2.2.2.2.2.2.1 s.2.2.2.2.2.2.2.1 s.2.2.2.2.2.2.2.2.1 s.2.2.2.2.2.2.2.2.2.1 s.2.2.2.2.2.2.2.2.2.2.1 s.2.2.2.2.2.2.2.2.2.2.2.1 s.2.2.2.2.2.2.2.2.2.2.2.2⟩
theorem merge_Claim_ok : merge_Claim_t.ok Try.prog 19 := FnT.ok_of (cfg := ⟨[], consD9, [], []⟩) (tab := merge_Successor_T) (mt := mt0) pfit merge_Successor_T_ok mt0_ok (fun s fn hf => by rw [Try.func19] at hf; cases hf; kernel_rfl) (fun n s => by kernel_rfl)
def merge_Claim_T : Tab := (19, merge_Claim_t) :: merge_Successor_T
theorem merge_Claim_T_ok : merge_Claim_T.ok Try.prog := Tab.ok_cons merge_Claim_ok merge_Successor_T_ok
end
end Go.Proofs.Ytgckmifmjiklmaa
