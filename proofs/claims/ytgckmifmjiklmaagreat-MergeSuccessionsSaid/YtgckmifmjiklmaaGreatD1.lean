/-
  Plain functions for functions of the program, each with its contract (printed by decomp.py).
-/
import Derived.Test.YtgckmifmjiklmaaGreatSxP
import Derived.Test.YtgckmifmjiklmaaGreatSx25
set_option linter.unusedSimpArgs false
set_option linter.unusedVariables false
set_option maxRecDepth 100000
namespace Go.Proofs.YtgckmifmjiklmaaGreat
open Go Go.Sx
noncomputable section
def consD1 : List Nat := [11, 12, 13, 14, 15, 16, 17, 18, 19, 20, 21, 22, 23, 24, 25, 26, 27, 28, 29, 30, 31, 32, 33, 34, 35, 36, 37, 38, 40, 46, 47, 51, 52, 54, 55, 56, 57, 58, 59, 61, 62, 63, 64, 66, 67, 69, 80, 83, 87, 90, 91, 92, 95, 96, 115, 116, 121, 122, 127, 128, 164, 165, 166, 197, 198, 201, 204, 205, 216, 229, 1000012, 1000056, 1000197, 1000216, 1000229]
def Tab0 : Tab := []
theorem Tab0_ok : Tab0.ok Tryz.prog := Tab.ok_nil
def mt0 : MTab := []
theorem mt0_ok : mt0.ok Tryz.prog := fun _ h => by cases h
/-! dialtone/dialtoneref13.pick -/
abbrev ref13_pick_a := Int
def ref13_pick_1 (n : Nat) (v0 v1 : Int) : Option ref13_pick_a :=
  (bif (decide (v0 < 0)) then bif ((decide ((-9223372036854775808) ≤ (v0 + 1))) && (decide ((v0 + 1) ≤ 9223372036854775807))) then bif ((decide ((-9223372036854775808) ≤ (0 - (v0 + 1)))) && (decide ((0 - (v0 + 1)) ≤ 9223372036854775807))) then bif (!(decide (v1 = 0))) then some (Int.tmod (0 - (v0 + 1)) v1) else none else none else none
  else bif (!(decide (v1 = 0))) then some (Int.tmod v0 v1) else none)
def ref13_pick (n : Nat) (v0 v1 : Int) : Option ref13_pick_a := ref13_pick_1 n v0 v1
def ref13_pick_t : FnT := ⟨[(false, [.int]), (false, [.int])], .i, fun n (s : Int × Int) => ref13_pick n s.1 s.2⟩
theorem ref13_pick_ok : ref13_pick_t.ok Tryz.prog 96 := FnT.ok_of (cfg := ⟨[], consD1, [], []⟩) (tab := Tab0) (mt := mt0) pfit Tab0_ok mt0_ok (fun s fn hf => by rw [Tryz.func96] at hf; cases hf; kernel_rfl) (fun n s => by kernel_rfl)
def ref13_pick_T : Tab := (96, ref13_pick_t) :: Tab0
theorem ref13_pick_T_ok : ref13_pick_T.ok Tryz.prog := Tab.ok_cons ref13_pick_ok Tab0_ok
/-! dialtone/dialtoneref13.Piece -/
abbrev ref13_Piece_a := Int × Int
def ref13_Piece_1 (n : Nat) (v0 v1 : Int) : Option ref13_Piece_a :=
  (ref13_pick n v0 60).bind fun y2 =>
  bif ((decide ((-9223372036854775808) ≤ (y2 + 1))) && (decide ((y2 + 1) ≤ 9223372036854775807))) then bif ((decide ((-9223372036854775808) ≤ (60 - y2))) && (decide ((60 - y2) ≤ 9223372036854775807))) then (ref13_pick n v1 (60 - y2)).bind fun y3 =>
  bif ((decide ((-9223372036854775808) ≤ ((y2 + 1) + y3))) && (decide (((y2 + 1) + y3) ≤ 9223372036854775807))) then (ref13_pick n v0 8).bind fun y4 =>
  (bif (decide (y4 = 7)) then bif ((decide ((-9223372036854775808) ≤ (1666666 * y2))) && (decide ((1666666 * y2) ≤ 9223372036854775807))) then bif ((decide ((-9223372036854775808) ≤ (1666666 * ((y2 + 1) + y3)))) && (decide ((1666666 * ((y2 + 1) + y3)) ≤ 9223372036854775807))) then bif ((decide ((-9223372036854775808) ≤ ((1666666 * ((y2 + 1) + y3)) + 40))) && (decide (((1666666 * ((y2 + 1) + y3)) + 40) ≤ 9223372036854775807))) then some ((1666666 * y2), ((1666666 * ((y2 + 1) + y3)) + 40)) else none else none else none
  else some (y2, ((y2 + 1) + y3))) else none else none else none
def ref13_Piece (n : Nat) (v0 v1 : Int) : Option ref13_Piece_a := ref13_Piece_1 n v0 v1
def ref13_Piece_t : FnT := ⟨[(false, [.int]), (false, [.int])], (.agg (.cons .i (.cons .i .nil))), fun n (s : Int × Int) => ref13_Piece n s.1 s.2⟩
theorem ref13_Piece_ok : ref13_Piece_t.ok Tryz.prog 61 := FnT.ok_of (cfg := ⟨[], consD1, [], []⟩) (tab := ref13_pick_T) (mt := mt0) pfit ref13_pick_T_ok mt0_ok (fun s fn hf => by rw [Tryz.func61] at hf; cases hf; kernel_rfl) (fun n s => by kernel_rfl)
def ref13_Piece_T : Tab := (61, ref13_Piece_t) :: ref13_pick_T
theorem ref13_Piece_T_ok : ref13_Piece_T.ok Tryz.prog := Tab.ok_cons ref13_Piece_ok ref13_pick_T_ok
/-! dialtone/dialtoneref13.Valid -/
abbrev ref13_Valid_a := Bool
abbrev ref13_Valid_s0 := Int
def ref13_Valid_2 (n : Nat) (go0 : ref13_Valid_s0 → Option ref13_Valid_a) (v0 : Lv) (v1 : Int) : Option ref13_Valid_a :=
  (bif (decide (v1 < (v0.length : Int))) then bif (decide (0 ≤ v1)) then (bif (decide (0 ≤ (cI v0 v1 0))) then (bif (decide ((cI v0 v1 0) < (cI v0 v1 1))) then (bif (!(decide ((cI v0 v1 1) ≤ 100000000))) then some false
  else (bif (decide (0 ≤ (cI v0 v1 2))) then (bif (!(decide ((cI v0 v1 2) ≤ 7))) then some false
  else (bif (decide (0 < v1)) then bif ((decide ((-9223372036854775808) ≤ (v1 - 1))) && (decide ((v1 - 1) ≤ 9223372036854775807))) then bif (decide (0 ≤ (v1 - 1))) then bif (decide ((v1 - 1) < (v0.length : Int))) then (bif (decide ((cI v0 v1 0) < (cI v0 (v1 - 1) 1))) then some false
  else (bif (decide ((cI v0 (v1 - 1) 1) = (cI v0 v1 0))) then (bif (decide ((cI v0 (v1 - 1) 2) = (cI v0 v1 2))) then some false
  else bif ((decide ((-9223372036854775808) ≤ (v1 + 1))) && (decide ((v1 + 1) ≤ 9223372036854775807))) then go0 (v1 + 1) else none)
  else bif ((decide ((-9223372036854775808) ≤ (v1 + 1))) && (decide ((v1 + 1) ≤ 9223372036854775807))) then go0 (v1 + 1) else none)) else none else none else none
  else bif ((decide ((-9223372036854775808) ≤ (v1 + 1))) && (decide ((v1 + 1) ≤ 9223372036854775807))) then go0 (v1 + 1) else none))
  else some false))
  else some false)
  else some false) else none
  else some true)
def ref13_Valid_1 (n : Nat) (v0 : Lv) : Option ref13_Valid_a :=
  (bif (decide (40 < (v0.length : Int))) then some false
  else (iterF (fun go0 s => ref13_Valid_2 n go0 v0 s) n (0 : ref13_Valid_s0)))
def ref13_Valid (n : Nat) (v0 : Lv) : Option ref13_Valid_a := ref13_Valid_1 n v0
def ref13_Valid_t : FnT := ⟨[(false, [(.sl (.cons .int (.cons .int (.cons .int .nil))))])], .b, fun n (s : Lv) => ref13_Valid n s⟩
theorem ref13_Valid_ok : ref13_Valid_t.ok Tryz.prog 67 := FnT.ok_of (cfg := ⟨[((67, 4, 0), .inv [(.tmp 3 .int)])], consD1, [], []⟩) (tab := ref13_Piece_T) (mt := mt0) pfit ref13_Piece_T_ok mt0_ok (fun s fn hf => by rw [Tryz.func67] at hf; cases hf; kernel_rfl) (fun n s => by kernel_rfl)
def ref13_Valid_T : Tab := (67, ref13_Valid_t) :: ref13_Piece_T
theorem ref13_Valid_T_ok : ref13_Valid_T.ok Tryz.prog := Tab.ok_cons ref13_Valid_ok ref13_Piece_T_ok
/-! dialtone/dialtoneref13.holder -/
abbrev ref13_holder_a := Int
abbrev ref13_holder_s0 := Int
def ref13_holder_2 (n : Nat) (go0 : ref13_holder_s0 → Option ref13_holder_a) (v0 : Lv) (v1 v2 : Int) : Option ref13_holder_a :=
  (bif (decide (v2 < (v0.length : Int))) then bif (decide (0 ≤ v2)) then (bif (decide ((cI v0 v2 0) ≤ v1)) then (bif (decide (v1 < (cI v0 v2 1))) then some (cI v0 v2 2)
  else bif ((decide ((-9223372036854775808) ≤ (v2 + 1))) && (decide ((v2 + 1) ≤ 9223372036854775807))) then go0 (v2 + 1) else none)
  else bif ((decide ((-9223372036854775808) ≤ (v2 + 1))) && (decide ((v2 + 1) ≤ 9223372036854775807))) then go0 (v2 + 1) else none) else none
  else some (-1))
def ref13_holder_1 (n : Nat) (v0 : Lv) (v1 : Int) : Option ref13_holder_a :=
  (iterF (fun go0 s => ref13_holder_2 n go0 v0 v1 s) n (0 : ref13_holder_s0))
def ref13_holder (n : Nat) (v0 : Lv) (v1 : Int) : Option ref13_holder_a := ref13_holder_1 n v0 v1
def ref13_holder_t : FnT := ⟨[(false, [(.sl (.cons .int (.cons .int (.cons .int .nil))))]), (false, [.int])], .i, fun n (s : Lv × Int) => ref13_holder n s.1 s.2⟩
theorem ref13_holder_ok : ref13_holder_t.ok Tryz.prog 198 := FnT.ok_of (cfg := ⟨[((198, 2, 0), .inv [(.tmp 5 .int)])], consD1, [], []⟩) (tab := ref13_Valid_T) (mt := mt0) pfit ref13_Valid_T_ok mt0_ok (fun s fn hf => by rw [Tryz.func198] at hf; cases hf; kernel_rfl) (fun n s => by kernel_rfl)
def ref13_holder_T : Tab := (198, ref13_holder_t) :: ref13_Valid_T
theorem ref13_holder_T_ok : ref13_holder_T.ok Tryz.prog := Tab.ok_cons ref13_holder_ok ref13_Valid_T_ok
/-! dialtone/dialtoneref13.Same -/
abbrev ref13_Same_a := Bool
abbrev ref13_Same_s0 := Int
def ref13_Same_2 (n : Nat) (go0 : ref13_Same_s0 → Option ref13_Same_a) (v0 v1 : Lv) (v2 : Int) : Option ref13_Same_a :=
  (bif (decide (v2 < (v0.length : Int))) then bif (decide (0 ≤ v2)) then bif (decide (v2 < (v1.length : Int))) then (bif (!(((decide ((cI v0 v2 0) = (cI v1 v2 0))) && (decide ((cI v0 v2 1) = (cI v1 v2 1)))) && (decide ((cI v0 v2 2) = (cI v1 v2 2))))) then some false
  else bif ((decide ((-9223372036854775808) ≤ (v2 + 1))) && (decide ((v2 + 1) ≤ 9223372036854775807))) then go0 (v2 + 1) else none) else none else none
  else some true)
def ref13_Same_1 (n : Nat) (v0 v1 : Lv) : Option ref13_Same_a :=
  (bif (!(decide ((v0.length : Int) = (v1.length : Int)))) then some false
  else (iterF (fun go0 s => ref13_Same_2 n go0 v0 v1 s) n (0 : ref13_Same_s0)))
def ref13_Same (n : Nat) (v0 v1 : Lv) : Option ref13_Same_a := ref13_Same_1 n v0 v1
def ref13_Same_t : FnT := ⟨[(false, [(.sl (.cons .int (.cons .int (.cons .int .nil))))]), (false, [(.sl (.cons .int (.cons .int (.cons .int .nil))))])], .b, fun n (s : Lv × Lv) => ref13_Same n s.1 s.2⟩
theorem ref13_Same_ok : ref13_Same_t.ok Tryz.prog 32 := FnT.ok_of (cfg := ⟨[((32, 4, 0), .inv [(.tmp 5 .int)])], consD1, [], []⟩) (tab := ref13_holder_T) (mt := mt0) pfit ref13_holder_T_ok mt0_ok (fun s fn hf => by rw [Tryz.func32] at hf; cases hf; kernel_rfl) (fun n s => by kernel_rfl)
def ref13_Same_T : Tab := (32, ref13_Same_t) :: ref13_holder_T
theorem ref13_Same_T_ok : ref13_Same_T.ok Tryz.prog := Tab.ok_cons ref13_Same_ok ref13_holder_T_ok
end
end Go.Proofs.YtgckmifmjiklmaaGreat
