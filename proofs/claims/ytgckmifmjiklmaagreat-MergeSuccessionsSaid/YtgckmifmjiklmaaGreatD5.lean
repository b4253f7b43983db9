/-
  Plain functions for functions of the program, each with its contract (printed by decomp.py).
-/
import Derived.Test.YtgckmifmjiklmaaGreatSxP
import Derived.Test.YtgckmifmjiklmaaGreatSx25
import Derived.Test.YtgckmifmjiklmaaGreatD4
set_option linter.unusedSimpArgs false
set_option linter.unusedVariables false
set_option maxRecDepth 100000
namespace Go.Proofs.YtgckmifmjiklmaaGreat
open Go Go.Sx
noncomputable section
def consD5 : List Nat := [11, 12, 13, 14, 15, 16, 17, 18, 19, 20, 21, 22, 23, 24, 25, 26, 27, 28, 29, 30, 31, 32, 33, 34, 35, 36, 37, 38, 40, 46, 47, 51, 52, 54, 55, 56, 57, 58, 59, 61, 62, 63, 64, 66, 67, 69, 80, 83, 87, 90, 91, 92, 95, 96, 115, 116, 121, 122, 127, 128, 164, 165, 166, 197, 198, 201, 204, 205, 216, 229, 1000012, 1000056, 1000197, 1000216, 1000229]
/-! dialtone/block.Valid -/
abbrev block_Valid_a := Bool
abbrev block_Valid_s0 := Int × Int × Int × Int
def block_Valid_2 (n : Nat) (go0 : block_Valid_s0 → Option block_Valid_a) (v0 : Lv) (v1 v3 v4 : Int) : Option block_Valid_a :=
  (bif (decide (v1 < (v0.length : Int))) then bif (decide (0 ≤ v1)) then (bif (decide (0 ≤ (cI v0 v1 0))) then (bif (decide ((cI v0 v1 0) < (cI v0 v1 1))) then (bif (!(decide ((cI v0 v1 1) ≤ 100000000))) then some (!(decide (0 ≤ v1)))
  else (bif (decide (0 ≤ (cI v0 v1 2))) then (bif (!(decide ((cI v0 v1 2) ≤ 7))) then some (!(decide (0 ≤ v1)))
  else (bif (decide ((cI v0 v1 0) < v3)) then some (!(decide (0 ≤ v1)))
  else (bif (((decide ((cI v0 v1 0) = v3)) && (decide ((cI v0 v1 1) = (cI v0 v1 1)))) && (decide ((cI v0 v1 2) = v4))) then some (!(decide (0 ≤ v1)))
  else bif ((decide ((-9223372036854775808) ≤ (v1 + 1))) && (decide ((v1 + 1) ≤ 9223372036854775807))) then go0 ((v1 + 1), (cI v0 v1 0), (cI v0 v1 1), (cI v0 v1 2)) else none)))
  else some (!(decide (0 ≤ v1)))))
  else some (!(decide (0 ≤ v1))))
  else some (!(decide (0 ≤ v1)))) else none
  else some true)
def block_Valid_1 (n : Nat) (v0 : Lv) : Option block_Valid_a :=
  (bif (decide ((v0.length : Int) ≤ 40)) then (iterF (fun go0 s => block_Valid_2 n go0 v0 s.1 s.2.2.1 s.2.2.2) n ((0, 0, 0, (-1)) : block_Valid_s0))
  else some false)
def block_Valid (n : Nat) (v0 : Lv) : Option block_Valid_a := block_Valid_1 n v0
def block_Valid_t : FnT := ⟨[(false, [(.sl (.cons .int (.cons .int (.cons .int .nil))))])], .b, fun n (s : Lv) => block_Valid n s⟩
theorem block_Valid_ok : block_Valid_t.ok Tryz.prog 69 := FnT.ok_of (cfg := ⟨[((97, 2, 2), .inv [(.tmp 8 .int), (.cell 0 0 .int), (.cell 0 1 .int), (.cell 0 2 .int)])], consD5, [], []⟩) (tab := ref13_Made_T) (mt := mt0) pfit ref13_Made_T_ok mt0_ok (fun s fn hf => by rw [Tryz.func69] at hf; cases hf; kernel_rfl) (fun n s => by kernel_rfl)
def block_Valid_T : Tab := (69, block_Valid_t) :: ref13_Made_T
theorem block_Valid_T_ok : block_Valid_T.ok Tryz.prog := Tab.ok_cons block_Valid_ok ref13_Made_T_ok
/-! dialtone/block.pieces$1 -/
abbrev block_pieces_1_a := Lv × Int × Int
abbrev block_pieces_1_s0 := Lv
def block_pieces_1_2 (n : Nat) (go0 : block_pieces_1_s0 → Option block_pieces_1_a) (v1 : Int) (v2 : Lv) : Option block_pieces_1_a :=
  (bif (decide (0 < (v2.length : Int))) then (bif (decide ((cI v2 0 1) ≤ v1)) then bif (decide (1 ≤ (v2.length : Int))) then bif (decide ((v2.length : Int) ≤ (v2.length : Int))) then go0 (List.drop ((1 : Int)).toNat (List.take ((v2.length : Int)).toNat v2)) else none else none
  else (bif (decide ((v2.length : Int) = 0)) then some (([] : Lv), (-1), 100000000)
  else (bif (decide (v1 < (cI v2 0 0))) then some (v2, (-1), (cI v2 0 0))
  else some (v2, (cI v2 0 2), (cI v2 0 1)))))
  else (bif (decide ((v2.length : Int) = 0)) then some (([] : Lv), (-1), 100000000)
  else bif (decide (0 < (v2.length : Int))) then (bif (decide (v1 < (cI v2 0 0))) then some (v2, (-1), (cI v2 0 0))
  else some (v2, (cI v2 0 2), (cI v2 0 1))) else none))
def block_pieces_1_1 (n : Nat) (v0 : Lv) (v1 : Int) : Option block_pieces_1_a :=
  (iterF (fun go0 s => block_pieces_1_2 n go0 v1 s) n (v0 : block_pieces_1_s0))
def block_pieces_1 (n : Nat) (v0 : Lv) (v1 : Int) : Option block_pieces_1_a := block_pieces_1_1 n v0 v1
def block_pieces_1_t : FnT := ⟨[(false, [(.sl (.cons .int (.cons .int (.cons .int .nil))))]), (false, [.int])], (.tup (.cons (.row 1000116 (.cons .int (.cons .int (.cons .int .nil)))) (.cons .i (.cons .i .nil)))), fun n (s : Lv × Int) => block_pieces_1 n s.1 s.2⟩
theorem block_pieces_1_ok : block_pieces_1_t.ok Tryz.prog 229 := FnT.ok_of (cfg := ⟨[((229, 1, 0), .inv [(.tmp 0 (.sl (.cons .int (.cons .int (.cons .int .nil)))))])], consD5, [], []⟩) (tab := block_Valid_T) (mt := mt0) pfit block_Valid_T_ok mt0_ok (fun s fn hf => by rw [Tryz.func229] at hf; cases hf; kernel_rfl) (fun n s => by kernel_rfl)
def block_pieces_1_T : Tab := (229, block_pieces_1_t) :: block_Valid_T
theorem block_pieces_1_T_ok : block_pieces_1_T.ok Tryz.prog := Tab.ok_cons block_pieces_1_ok block_Valid_T_ok
/-! dialtone/block.Only -/
abbrev block_Only_a := Lv × Int
abbrev block_Only_s0 := Int × Lv × Lv × Lv
def block_Only_2 (n : Nat) (go0 : block_Only_s0 → Option block_Only_a) (v4 : Int) (v5 v6 v7 : Lv) : Option block_Only_a :=
  (bif (decide (v4 ≤ 99999999)) then (block_pieces_1 n v6 v4).bind fun y8 =>
  (block_pieces_1 n v7 v4).bind fun y11 =>
  (bif (decide (y11.2.1 = (-1))) then go0 ((imin y8.2.2 y11.2.2), v5, y8.1, y11.1)
  else (bif (decide (y8.2.1 = (-1))) then go0 ((imin y8.2.2 y11.2.2), v5, y8.1, y11.1)
  else (bif (decide (0 < (v5.length : Int))) then bif ((decide ((-9223372036854775808) ≤ ((v5.length : Int) - 1))) && (decide (((v5.length : Int) - 1) ≤ 9223372036854775807))) then bif (decide (0 ≤ ((v5.length : Int) - 1))) then bif (decide (((v5.length : Int) - 1) < (v5.length : Int))) then (bif (decide ((cI v5 ((v5.length : Int) - 1) 1) = v4)) then (bif (decide ((cI v5 ((v5.length : Int) - 1) 2) = y8.2.1)) then go0 ((imin y8.2.2 y11.2.2), (List.modify v5 (((v5.length : Int) - 1)).toNat (fun r => r.set 1 (AV.int (imin y8.2.2 y11.2.2)))), y8.1, y11.1)
  else bif (decide ((((v5.length : Int) + 1) * 24) ≤ 140737488355328)) then go0 ((imin y8.2.2 y11.2.2), (v5 ++ [[(AV.int v4), (AV.int (imin y8.2.2 y11.2.2)), (AV.int y8.2.1)]]), y8.1, y11.1) else none)
  else bif (decide ((((v5.length : Int) + 1) * 24) ≤ 140737488355328)) then go0 ((imin y8.2.2 y11.2.2), (v5 ++ [[(AV.int v4), (AV.int (imin y8.2.2 y11.2.2)), (AV.int y8.2.1)]]), y8.1, y11.1) else none) else none else none else none
  else bif (decide ((((v5.length : Int) + 1) * 24) ≤ 140737488355328)) then go0 ((imin y8.2.2 y11.2.2), (v5 ++ [[(AV.int v4), (AV.int (imin y8.2.2 y11.2.2)), (AV.int y8.2.1)]]), y8.1, y11.1) else none)))
  else (bif (decide (40 < (v5.length : Int))) then some (([] : Lv), 130)
  else some (v5, 0)))
def block_Only_1 (n : Nat) (v0 : Lv) (v1 v2 : Int) : Option block_Only_a :=
  (block_Valid n v0).bind fun y3 =>
  (bif (!y3) then some (([] : Lv), 130)
  else (bif (decide (0 ≤ v1)) then (bif (decide (v1 < v2)) then (bif (!(decide (v2 ≤ 100000000))) then some (([] : Lv), 130)
  else (iterF (fun go0 s => block_Only_2 n go0 s.1 s.2.1 s.2.2.1 s.2.2.2) n ((0, ([] : Lv), v0, (([] : Lv) ++ [[(AV.int v1), (AV.int v2), (AV.int 0)]])) : block_Only_s0)))
  else some (([] : Lv), 130))
  else some (([] : Lv), 130)))
def block_Only (n : Nat) (v0 : Lv) (v1 v2 : Int) : Option block_Only_a := block_Only_1 n v0 v1 v2
def block_Only_t : FnT := ⟨[(false, [(.sl (.cons .int (.cons .int (.cons .int .nil))))]), (true, [.int, .int])], (.tup (.cons (.row 116 (.cons .int (.cons .int (.cons .int .nil)))) (.cons .i .nil))), fun n (s : Lv × Int × Int) => block_Only n s.1 s.2.1 s.2.2⟩
theorem block_Only_ok : block_Only_t.ok Tryz.prog 204 := FnT.ok_of (cfg := ⟨[((230, 1, 11), .inv [(.tmp 5 .int), (.cellrow 5 0 116 (.cons .int (.cons .int (.cons .int .nil)))), (.cell 6 0 (.sl (.cons .int (.cons .int (.cons .int .nil))))), (.cell 7 0 (.sl (.cons .int (.cons .int (.cons .int .nil)))))])], consD5, [], []⟩) (tab := block_pieces_1_T) (mt := mt0) pfit block_pieces_1_T_ok mt0_ok (fun s fn hf => by rw [Tryz.func204] at hf; cases hf; kernel_rfl) (fun n s => by kernel_rfl)
def block_Only_T : Tab := (204, block_Only_t) :: block_pieces_1_T
theorem block_Only_T_ok : block_Only_T.ok Tryz.prog := Tab.ok_cons block_Only_ok block_pieces_1_T_ok
/-! dialtone/block.Overlay -/
abbrev block_Overlay_a := Lv × Int
abbrev block_Overlay_s0 := Int × Lv × Lv × Lv
def block_Overlay_4 (n : Nat) (go0 : block_Overlay_s0 → Option block_Overlay_a) (v4 : Int) (v5 v6 v7 : Lv) : Option block_Overlay_a :=
  (bif (decide (v4 ≤ 99999999)) then (block_pieces_1 n v6 v4).bind fun y8 =>
  (block_pieces_1 n v7 v4).bind fun y11 =>
  (bif (!(decide (y11.2.1 = (-1)))) then (bif (decide (0 < (v5.length : Int))) then bif ((decide ((-9223372036854775808) ≤ ((v5.length : Int) - 1))) && (decide (((v5.length : Int) - 1) ≤ 9223372036854775807))) then bif (decide (0 ≤ ((v5.length : Int) - 1))) then bif (decide (((v5.length : Int) - 1) < (v5.length : Int))) then (bif (decide ((cI v5 ((v5.length : Int) - 1) 1) = v4)) then (bif (decide ((cI v5 ((v5.length : Int) - 1) 2) = y11.2.1)) then go0 ((imin y8.2.2 y11.2.2), (List.modify v5 (((v5.length : Int) - 1)).toNat (fun r => r.set 1 (AV.int (imin y8.2.2 y11.2.2)))), y8.1, y11.1)
  else bif (decide ((((v5.length : Int) + 1) * 24) ≤ 140737488355328)) then go0 ((imin y8.2.2 y11.2.2), (v5 ++ [[(AV.int v4), (AV.int (imin y8.2.2 y11.2.2)), (AV.int y11.2.1)]]), y8.1, y11.1) else none)
  else bif (decide ((((v5.length : Int) + 1) * 24) ≤ 140737488355328)) then go0 ((imin y8.2.2 y11.2.2), (v5 ++ [[(AV.int v4), (AV.int (imin y8.2.2 y11.2.2)), (AV.int y11.2.1)]]), y8.1, y11.1) else none) else none else none else none
  else bif (decide ((((v5.length : Int) + 1) * 24) ≤ 140737488355328)) then go0 ((imin y8.2.2 y11.2.2), (v5 ++ [[(AV.int v4), (AV.int (imin y8.2.2 y11.2.2)), (AV.int y11.2.1)]]), y8.1, y11.1) else none)
  else (bif (decide (y8.2.1 = (-1))) then go0 ((imin y8.2.2 y11.2.2), v5, y8.1, y11.1)
  else (bif (decide (0 < (v5.length : Int))) then bif ((decide ((-9223372036854775808) ≤ ((v5.length : Int) - 1))) && (decide (((v5.length : Int) - 1) ≤ 9223372036854775807))) then bif (decide (0 ≤ ((v5.length : Int) - 1))) then bif (decide (((v5.length : Int) - 1) < (v5.length : Int))) then (bif (decide ((cI v5 ((v5.length : Int) - 1) 1) = v4)) then (bif (decide ((cI v5 ((v5.length : Int) - 1) 2) = y8.2.1)) then go0 ((imin y8.2.2 y11.2.2), (List.modify v5 (((v5.length : Int) - 1)).toNat (fun r => r.set 1 (AV.int (imin y8.2.2 y11.2.2)))), y8.1, y11.1)
  else bif (decide ((((v5.length : Int) + 1) * 24) ≤ 140737488355328)) then go0 ((imin y8.2.2 y11.2.2), (v5 ++ [[(AV.int v4), (AV.int (imin y8.2.2 y11.2.2)), (AV.int y8.2.1)]]), y8.1, y11.1) else none)
  else bif (decide ((((v5.length : Int) + 1) * 24) ≤ 140737488355328)) then go0 ((imin y8.2.2 y11.2.2), (v5 ++ [[(AV.int v4), (AV.int (imin y8.2.2 y11.2.2)), (AV.int y8.2.1)]]), y8.1, y11.1) else none) else none else none else none
  else bif (decide ((((v5.length : Int) + 1) * 24) ≤ 140737488355328)) then go0 ((imin y8.2.2 y11.2.2), (v5 ++ [[(AV.int v4), (AV.int (imin y8.2.2 y11.2.2)), (AV.int y8.2.1)]]), y8.1, y11.1) else none)))
  else (bif (decide (40 < (v5.length : Int))) then some (([] : Lv), 130)
  else some (v5, 0)))
def block_Overlay_3 (n : Nat) (v0 v1 : Lv) (v3 : Bool) : Option block_Overlay_a :=
  (bif (!v3) then some (([] : Lv), 130)
  else (iterF (fun go0 s => block_Overlay_4 n go0 s.1 s.2.1 s.2.2.1 s.2.2.2) n ((0, ([] : Lv), v0, v1) : block_Overlay_s0)))
def block_Overlay_2 (n : Nat) (v0 v1 : Lv) (v2 : Bool) : Option block_Overlay_a :=
  (bif (!v2) then some (([] : Lv), 130)
  else (block_Valid n v1).bind fun y3 =>
  block_Overlay_3 n v0 v1 y3)
def block_Overlay_1 (n : Nat) (v0 v1 : Lv) : Option block_Overlay_a :=
  (block_Valid n v0).bind fun y2 =>
  block_Overlay_2 n v0 v1 y2
def block_Overlay (n : Nat) (v0 v1 : Lv) : Option block_Overlay_a := block_Overlay_1 n v0 v1
def block_Overlay_t : FnT := ⟨[(false, [(.sl (.cons .int (.cons .int (.cons .int .nil))))]), (false, [(.sl (.cons .int (.cons .int (.cons .int .nil))))])], (.tup (.cons (.row 116 (.cons .int (.cons .int (.cons .int .nil)))) (.cons .i .nil))), fun n (s : Lv × Lv) => block_Overlay n s.1 s.2⟩
theorem block_Overlay_ok : block_Overlay_t.ok Tryz.prog 205 := FnT.ok_of (cfg := ⟨[((230, 1, 7), .inv [(.tmp 5 .int), (.cellrow 1 0 116 (.cons .int (.cons .int (.cons .int .nil)))), (.cell 2 0 (.sl (.cons .int (.cons .int (.cons .int .nil))))), (.cell 3 0 (.sl (.cons .int (.cons .int (.cons .int .nil)))))])], consD5, [], []⟩) (tab := block_Only_T) (mt := mt0) pfit block_Only_T_ok mt0_ok (fun s fn hf => by rw [Tryz.func205] at hf; cases hf; kernel_rfl) (fun n s => by kernel_rfl)
def block_Overlay_T : Tab := (205, block_Overlay_t) :: block_Only_T
theorem block_Overlay_T_ok : block_Overlay_T.ok Tryz.prog := Tab.ok_cons block_Overlay_ok block_Only_T_ok
/-! dialtone/block.Swap -/
abbrev block_Swap_a := Lv × Int
abbrev block_Swap_s0 := Int × Lv × Lv × Lv
def block_Swap_7 (n : Nat) (go0 : block_Swap_s0 → Option block_Swap_a) (v1 v2 v4 : Int) (v5 v6 v7 : Lv) : Option block_Swap_a :=
  (bif (decide (v4 ≤ 99999999)) then (block_pieces_1 n v6 v4).bind fun y8 =>
  (block_pieces_1 n v7 v4).bind fun y11 =>
  (bif (decide (y8.2.1 = v1)) then (bif (decide (v2 = (-1))) then go0 ((imin y8.2.2 y11.2.2), v5, y8.1, y11.1)
  else (bif (decide (0 < (v5.length : Int))) then bif ((decide ((-9223372036854775808) ≤ ((v5.length : Int) - 1))) && (decide (((v5.length : Int) - 1) ≤ 9223372036854775807))) then bif (decide (0 ≤ ((v5.length : Int) - 1))) then bif (decide (((v5.length : Int) - 1) < (v5.length : Int))) then (bif (decide ((cI v5 ((v5.length : Int) - 1) 1) = v4)) then (bif (decide ((cI v5 ((v5.length : Int) - 1) 2) = v2)) then go0 ((imin y8.2.2 y11.2.2), (List.modify v5 (((v5.length : Int) - 1)).toNat (fun r => r.set 1 (AV.int (imin y8.2.2 y11.2.2)))), y8.1, y11.1)
  else bif (decide ((((v5.length : Int) + 1) * 24) ≤ 140737488355328)) then go0 ((imin y8.2.2 y11.2.2), (v5 ++ [[(AV.int v4), (AV.int (imin y8.2.2 y11.2.2)), (AV.int v2)]]), y8.1, y11.1) else none)
  else bif (decide ((((v5.length : Int) + 1) * 24) ≤ 140737488355328)) then go0 ((imin y8.2.2 y11.2.2), (v5 ++ [[(AV.int v4), (AV.int (imin y8.2.2 y11.2.2)), (AV.int v2)]]), y8.1, y11.1) else none) else none else none else none
  else bif (decide ((((v5.length : Int) + 1) * 24) ≤ 140737488355328)) then go0 ((imin y8.2.2 y11.2.2), (v5 ++ [[(AV.int v4), (AV.int (imin y8.2.2 y11.2.2)), (AV.int v2)]]), y8.1, y11.1) else none))
  else (bif (decide (y8.2.1 = (-1))) then go0 ((imin y8.2.2 y11.2.2), v5, y8.1, y11.1)
  else (bif (decide (0 < (v5.length : Int))) then bif ((decide ((-9223372036854775808) ≤ ((v5.length : Int) - 1))) && (decide (((v5.length : Int) - 1) ≤ 9223372036854775807))) then bif (decide (0 ≤ ((v5.length : Int) - 1))) then bif (decide (((v5.length : Int) - 1) < (v5.length : Int))) then (bif (decide ((cI v5 ((v5.length : Int) - 1) 1) = v4)) then (bif (decide ((cI v5 ((v5.length : Int) - 1) 2) = y8.2.1)) then go0 ((imin y8.2.2 y11.2.2), (List.modify v5 (((v5.length : Int) - 1)).toNat (fun r => r.set 1 (AV.int (imin y8.2.2 y11.2.2)))), y8.1, y11.1)
  else bif (decide ((((v5.length : Int) + 1) * 24) ≤ 140737488355328)) then go0 ((imin y8.2.2 y11.2.2), (v5 ++ [[(AV.int v4), (AV.int (imin y8.2.2 y11.2.2)), (AV.int y8.2.1)]]), y8.1, y11.1) else none)
  else bif (decide ((((v5.length : Int) + 1) * 24) ≤ 140737488355328)) then go0 ((imin y8.2.2 y11.2.2), (v5 ++ [[(AV.int v4), (AV.int (imin y8.2.2 y11.2.2)), (AV.int y8.2.1)]]), y8.1, y11.1) else none) else none else none else none
  else bif (decide ((((v5.length : Int) + 1) * 24) ≤ 140737488355328)) then go0 ((imin y8.2.2 y11.2.2), (v5 ++ [[(AV.int v4), (AV.int (imin y8.2.2 y11.2.2)), (AV.int y8.2.1)]]), y8.1, y11.1) else none)))
  else (bif (decide (40 < (v5.length : Int))) then some (([] : Lv), 130)
  else some (v5, 0)))
def block_Swap_6 (n : Nat) (v0 : Lv) (v1 v2 : Int) : Option block_Swap_a :=
  (bif (!(decide (v2 ≤ 7))) then some (([] : Lv), 130)
  else (iterF (fun go0 s => block_Swap_7 n go0 v1 v2 s.1 s.2.1 s.2.2.1 s.2.2.2) n ((0, ([] : Lv), v0, ([] : Lv)) : block_Swap_s0)))
def block_Swap_5 (n : Nat) (v0 : Lv) (v1 v2 : Int) : Option block_Swap_a :=
  (bif (decide (0 ≤ v2)) then block_Swap_6 n v0 v1 v2
  else some (([] : Lv), 130))
def block_Swap_4 (n : Nat) (v0 : Lv) (v1 v2 : Int) : Option block_Swap_a :=
  (bif (!(decide (v1 ≤ 7))) then some (([] : Lv), 130)
  else block_Swap_5 n v0 v1 v2)
def block_Swap_3 (n : Nat) (v0 : Lv) (v1 v2 : Int) : Option block_Swap_a :=
  (bif (decide (0 ≤ v1)) then block_Swap_4 n v0 v1 v2
  else some (([] : Lv), 130))
def block_Swap_2 (n : Nat) (v0 : Lv) (v1 v2 : Int) (v3 : Bool) : Option block_Swap_a :=
  (bif (!v3) then some (([] : Lv), 130)
  else block_Swap_3 n v0 v1 v2)
def block_Swap_1 (n : Nat) (v0 : Lv) (v1 v2 : Int) : Option block_Swap_a :=
  (block_Valid n v0).bind fun y3 =>
  block_Swap_2 n v0 v1 v2 y3
def block_Swap (n : Nat) (v0 : Lv) (v1 v2 : Int) : Option block_Swap_a := block_Swap_1 n v0 v1 v2
def block_Swap_t : FnT := ⟨[(false, [(.sl (.cons .int (.cons .int (.cons .int .nil))))]), (false, [.int]), (false, [.int])], (.tup (.cons (.row 116 (.cons .int (.cons .int (.cons .int .nil)))) (.cons .i .nil))), fun n (s : Lv × Int × Int) => block_Swap n s.1 s.2.1 s.2.2⟩
theorem block_Swap_ok : block_Swap_t.ok Tryz.prog 201 := FnT.ok_of (cfg := ⟨[((230, 1, 9), .inv [(.tmp 5 .int), (.cellrow 3 0 116 (.cons .int (.cons .int (.cons .int .nil)))), (.cell 4 0 (.sl (.cons .int (.cons .int (.cons .int .nil))))), (.cell 5 0 (.sl (.cons .int (.cons .int (.cons .int .nil)))))])], consD5, [], []⟩) (tab := block_Overlay_T) (mt := mt0) pfit block_Overlay_T_ok mt0_ok (fun s fn hf => by rw [Tryz.func201] at hf; cases hf; kernel_rfl) (fun n s => by kernel_rfl)
def block_Swap_T : Tab := (201, block_Swap_t) :: block_Overlay_T
theorem block_Swap_T_ok : block_Swap_T.ok Tryz.prog := Tab.ok_cons block_Swap_ok block_Overlay_T_ok
/-! dialtone/block.Count -/
abbrev block_Count_a := Int
abbrev block_Count_s0 := Int × Int
def block_Count_2 (n : Nat) (go0 : block_Count_s0 → Option block_Count_a) (v0 : Lv) (v1 v3 v4 : Int) : Option block_Count_a :=
  (bif (decide (v4 < (v0.length : Int))) then bif (decide (0 ≤ v4)) then (bif (decide ((cI v0 v4 2) = v1)) then bif ((decide ((-9223372036854775808) ≤ ((cI v0 v4 1) - (cI v0 v4 0)))) && (decide (((cI v0 v4 1) - (cI v0 v4 0)) ≤ 9223372036854775807))) then bif ((decide ((-9223372036854775808) ≤ (v3 + ((cI v0 v4 1) - (cI v0 v4 0))))) && (decide ((v3 + ((cI v0 v4 1) - (cI v0 v4 0))) ≤ 9223372036854775807))) then bif ((decide ((-9223372036854775808) ≤ (v4 + 1))) && (decide ((v4 + 1) ≤ 9223372036854775807))) then go0 ((v3 + ((cI v0 v4 1) - (cI v0 v4 0))), (v4 + 1)) else none else none else none
  else bif ((decide ((-9223372036854775808) ≤ (v4 + 1))) && (decide ((v4 + 1) ≤ 9223372036854775807))) then go0 (v3, (v4 + 1)) else none) else none
  else some v3)
def block_Count_1 (n : Nat) (v0 : Lv) (v1 : Int) : Option block_Count_a :=
  (block_Valid n v0).bind fun y2 =>
  (bif (!y2) then some 0
  else (iterF (fun go0 s => block_Count_2 n go0 v0 v1 s.1 s.2) n ((0, 0) : block_Count_s0)))
def block_Count (n : Nat) (v0 : Lv) (v1 : Int) : Option block_Count_a := block_Count_1 n v0 v1
def block_Count_t : FnT := ⟨[(false, [(.sl (.cons .int (.cons .int (.cons .int .nil))))]), (false, [.int])], .i, fun n (s : Lv × Int) => block_Count n s.1 s.2⟩
theorem block_Count_ok : block_Count_t.ok Tryz.prog 95 := FnT.ok_of (cfg := ⟨[((95, 5, 0), .inv [(.tmp 5 .int), (.tmp 13 .int)])], consD5, [], []⟩) (tab := block_Swap_T) (mt := mt0) pfit block_Swap_T_ok mt0_ok (fun s fn hf => by rw [Tryz.func95] at hf; cases hf; kernel_rfl) (fun n s => by kernel_rfl)
def block_Count_T : Tab := (95, block_Count_t) :: block_Swap_T
theorem block_Count_T_ok : block_Count_T.ok Tryz.prog := Tab.ok_cons block_Count_ok block_Swap_T_ok
/-! dialtone/block.Find -/
abbrev block_Find_a := Int × Bool
abbrev block_Find_s0 := Int
def block_Find_2 (n : Nat) (go0 : block_Find_s0 → Option block_Find_a) (v0 : Lv) (v1 v2 : Int) : Option block_Find_a :=
  (bif (decide (v2 < (v0.length : Int))) then bif (decide (0 ≤ v2)) then (bif (decide ((cI v0 v2 0) ≤ v1)) then (bif (decide (v1 < (cI v0 v2 1))) then (bif (decide (v2 < 0)) then some (0, false)
  else (block_Valid n v0).bind fun y3 =>
  (bif (!y3) then some (0, false)
  else some ((cI v0 v2 2), true)))
  else bif ((decide ((-9223372036854775808) ≤ (v2 + 1))) && (decide ((v2 + 1) ≤ 9223372036854775807))) then go0 (v2 + 1) else none)
  else bif ((decide ((-9223372036854775808) ≤ (v2 + 1))) && (decide ((v2 + 1) ≤ 9223372036854775807))) then go0 (v2 + 1) else none) else none
  else some (0, false))
def block_Find_1 (n : Nat) (v0 : Lv) (v1 : Int) : Option block_Find_a :=
  (iterF (fun go0 s => block_Find_2 n go0 v0 v1 s) n (0 : block_Find_s0))
def block_Find (n : Nat) (v0 : Lv) (v1 : Int) : Option block_Find_a := block_Find_1 n v0 v1
def block_Find_t : FnT := ⟨[(false, [(.sl (.cons .int (.cons .int (.cons .int .nil))))]), (false, [.int])], (.tup (.cons .i (.cons .b .nil))), fun n (s : Lv × Int) => block_Find n s.1 s.2⟩
theorem block_Find_ok : block_Find_t.ok Tryz.prog 38 := FnT.ok_of (cfg := ⟨[((97, 2, 1), .inv [(.tmp 8 .int)])], consD5, [], []⟩) (tab := block_Count_T) (mt := mt0) pfit block_Count_T_ok mt0_ok (fun s fn hf => by rw [Tryz.func38] at hf; cases hf; kernel_rfl) (fun n s => by kernel_rfl)
def block_Find_T : Tab := (38, block_Find_t) :: block_Count_T
theorem block_Find_T_ok : block_Find_T.ok Tryz.prog := Tab.ok_cons block_Find_ok block_Count_T_ok
end
end Go.Proofs.YtgckmifmjiklmaaGreat
