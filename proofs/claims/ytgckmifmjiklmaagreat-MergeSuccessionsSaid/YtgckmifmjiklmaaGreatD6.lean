/-
  Plain functions for functions of the program, each with its contract (printed by decomp.py).
-/
import Derived.Test.YtgckmifmjiklmaaGreatSxP
import Derived.Test.YtgckmifmjiklmaaGreatSx25
import Derived.Test.YtgckmifmjiklmaaGreatD5
set_option linter.unusedSimpArgs false
set_option linter.unusedVariables false
set_option maxRecDepth 100000
namespace Go.Proofs.YtgckmifmjiklmaaGreat
open Go Go.Sx
noncomputable section
def consD6 : List Nat := [11, 12, 13, 14, 15, 16, 17, 18, 19, 20, 21, 22, 23, 24, 25, 26, 27, 28, 29, 30, 31, 32, 33, 34, 35, 36, 37, 38, 40, 46, 47, 51, 52, 54, 55, 56, 57, 58, 59, 61, 62, 63, 64, 66, 67, 69, 80, 83, 87, 90, 91, 92, 95, 96, 115, 116, 121, 122, 127, 128, 164, 165, 166, 197, 198, 201, 204, 205, 216, 229, 1000012, 1000056, 1000197, 1000216, 1000229]
/-! dialtone/merge.Valid -/
abbrev merge_Valid_a := Bool
abbrev merge_Valid_s0 := Int × Int
abbrev merge_Valid_s1 := Int × Lv × Int
abbrev merge_Valid_s2 := Int
def merge_Valid_5 (n : Nat) (go0 : merge_Valid_s0 → Option merge_Valid_a) (v8 : Lv) (v10 v12 v13 : Int) : Option merge_Valid_a :=
  (bif (decide (v13 < (v8.length : Int))) then bif (decide (0 ≤ v13)) then bif ((decide ((-9223372036854775808) ≤ (v13 + 1))) && (decide ((v13 + 1) ≤ 9223372036854775807))) then go0 ((imin v12 (cI v8 v13 0)), (v13 + 1)) else none else none
  else bif ((decide ((-9223372036854775808) ≤ (v10 - v12))) && (decide ((v10 - v12) ≤ 9223372036854775807))) then some (decide ((v10 - v12) ≤ 1)) else none)
def merge_Valid_4 (n : Nat) (go0 : merge_Valid_s0 → Option merge_Valid_a) (v8 : Lv) (v10 v11 : Int) : Option merge_Valid_a :=
  (bif (decide (v11 < (v8.length : Int))) then bif (decide (0 ≤ v11)) then bif ((decide ((-9223372036854775808) ≤ (v11 + 1))) && (decide ((v11 + 1) ≤ 9223372036854775807))) then go0 ((imax v10 (cI v8 v11 0)), (v11 + 1)) else none else none
  else (iterF (fun go0 s => merge_Valid_5 n go0 v8 v10 s.1 s.2) n (((cI v8 0 0), 1) : merge_Valid_s0)))
def merge_Valid_3 (n : Nat) (go0 : merge_Valid_s1 → Option merge_Valid_a) (v0 : Int) (v3 v4 : Lv) (v7 : Int) (v8 : Lv) (v9 : Int) : Option merge_Valid_a :=
  (bif (decide (v9 < (v3.length : Int))) then bif (decide (0 ≤ v9)) then (bif (decide ((-1000000000000) ≤ (cI v3 v9 0))) then (bif (!(decide ((cI v3 v9 0) ≤ 1000000000000))) then some false
  else bif (decide (v9 < (v4.length : Int))) then (bif (decide (0 ≤ (cI v4 v9 0))) then (bif (!(decide ((cI v4 v9 0) ≤ 9))) then some false
  else (bif (!(decide ((IOp.f .and (IOp.f .shr v0 v9) 1) = 1))) then (bif (!(decide ((cI v3 v9 0) = 0))) then some false
  else (bif (!(decide ((cI v4 v9 0) = 0))) then some false
  else bif ((decide ((-9223372036854775808) ≤ (v7 + (cI v3 v9 0)))) && (decide ((v7 + (cI v3 v9 0)) ≤ 9223372036854775807))) then bif ((decide ((-9223372036854775808) ≤ (v9 + 1))) && (decide ((v9 + 1) ≤ 9223372036854775807))) then go0 ((v7 + (cI v3 v9 0)), v8, (v9 + 1)) else none else none))
  else bif ((decide ((-9223372036854775808) ≤ (v7 + (cI v3 v9 0)))) && (decide ((v7 + (cI v3 v9 0)) ≤ 9223372036854775807))) then bif (decide ((((v8.length : Int) + 1) * 8) ≤ 140737488355328)) then bif ((decide ((-9223372036854775808) ≤ (v9 + 1))) && (decide ((v9 + 1) ≤ 9223372036854775807))) then go0 ((v7 + (cI v3 v9 0)), (v8 ++ [[(AV.int (cI v4 v9 0))]]), (v9 + 1)) else none else none else none))
  else some false) else none)
  else some false) else none
  else (bif (decide (v7 = 0)) then (bif (decide ((v8.length : Int) = 0)) then some true
  else (bif (decide ((v8.length : Int) < 1)) then none
  else bif (decide (0 < (v8.length : Int))) then (iterF (fun go0 s => merge_Valid_4 n go0 v8 s.1 s.2) n (((cI v8 0 0), 1) : merge_Valid_s0)) else none))
  else some false))
def merge_Valid_2 (n : Nat) (go0 : merge_Valid_s2 → Option merge_Valid_a) (v0 : Int) (v2 v3 v4 : Lv) (v6 : Int) : Option merge_Valid_a :=
  (bif (decide (v6 < (v2.length : Int))) then bif (decide (0 ≤ v6)) then bif (decide (0 ≤ (cI v2 v6 2))) then (bif (!(decide ((IOp.f .and (IOp.f .shr v0 (cI v2 v6 2)) 1) = 1))) then some false
  else bif ((decide ((-9223372036854775808) ≤ (v6 + 1))) && (decide ((v6 + 1) ≤ 9223372036854775807))) then go0 (v6 + 1) else none) else none else none
  else (iterF (fun go0 s => merge_Valid_3 n go0 v0 v3 v4 s.1 s.2.1 s.2.2) n ((0, ([] : Lv), 0) : merge_Valid_s1)))
def merge_Valid_1 (n : Nat) (v0 v1 : Int) (v2 v3 v4 : Lv) : Option merge_Valid_a :=
  (bif (decide (0 ≤ v1)) then (bif (!(decide (v1 ≤ 255))) then some false
  else (bif (!(decide ((IOp.f .and v0 v1) = v0))) then some false
  else (bif (decide (v0 < 0)) then some false
  else (bif (!(decide ((v3.length : Int) = 8))) then some false
  else (bif (!(decide ((v4.length : Int) = 8))) then some false
  else (block_Valid n v2).bind fun y5 =>
  (bif (!y5) then some false
  else (iterF (fun go0 s => merge_Valid_2 n go0 v0 v2 v3 v4 s) n (0 : merge_Valid_s2))))))))
  else some false)
def merge_Valid (n : Nat) (v0 v1 : Int) (v2 v3 v4 : Lv) : Option merge_Valid_a := merge_Valid_1 n v0 v1 v2 v3 v4
def merge_Valid_t : FnT := ⟨[(true, [.int, .int, (.sl (.cons .int (.cons .int (.cons .int .nil)))), (.sl (.cons .int .nil)), (.sl (.cons .int .nil))])], .b, fun n (s : Int × Int × Lv × Lv × Lv) => merge_Valid n s.1 s.2.1 s.2.2.1 s.2.2.2.1 s.2.2.2.2⟩
theorem merge_Valid_ok : merge_Valid_t.ok Tryz.prog 18 := FnT.ok_of (cfg := ⟨[((97, 2, 1), .inv [(.tmp 8 .int)]), ((18, 8, 2), .inv [(.tmp 3 .int), (.tmprow 4 3 (.cons .int .nil)), (.tmp 51 .int)]), ((74, 5, 5), .inv [(.tmp 3 .int), (.tmp 4 .int)]), ((75, 5, 7), .inv [(.tmp 3 .int), (.tmp 4 .int)])], consD6, [], []⟩) (tab := block_Find_T) (mt := mt0) pfit block_Find_T_ok mt0_ok (fun s fn hf => by rw [Tryz.func18] at hf; cases hf; kernel_rfl) (fun n s => by kernel_rfl)
def merge_Valid_T : Tab := (18, merge_Valid_t) :: block_Find_T
theorem merge_Valid_T_ok : merge_Valid_T.ok Tryz.prog := Tab.ok_cons merge_Valid_ok block_Find_T_ok
end
end Go.Proofs.YtgckmifmjiklmaaGreat
