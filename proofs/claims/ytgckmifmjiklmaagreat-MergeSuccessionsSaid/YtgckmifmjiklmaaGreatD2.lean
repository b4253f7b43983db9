/-
  Plain functions for functions of the program, each with its contract (printed by decomp.py).
-/
import Derived.Test.YtgckmifmjiklmaaGreatSxP
import Derived.Test.YtgckmifmjiklmaaGreatSx25
import Derived.Test.YtgckmifmjiklmaaGreatD1
set_option linter.unusedSimpArgs false
set_option linter.unusedVariables false
set_option maxRecDepth 100000
namespace Go.Proofs.YtgckmifmjiklmaaGreat
open Go Go.Sx
noncomputable section
def consD2 : List Nat := [11, 12, 13, 14, 15, 16, 17, 18, 19, 20, 21, 22, 23, 24, 25, 26, 27, 28, 29, 30, 31, 32, 33, 34, 35, 36, 37, 38, 40, 46, 47, 51, 52, 54, 55, 56, 57, 58, 59, 61, 62, 63, 64, 66, 67, 69, 80, 83, 87, 90, 91, 92, 95, 96, 115, 116, 121, 122, 127, 128, 164, 165, 166, 197, 198, 201, 204, 205, 216, 229, 1000012, 1000056, 1000197, 1000216, 1000229]
/-! dialtone/dialtoneref13.put -/
abbrev ref13_put_a := Lv
abbrev ref13_put_s0 := Int
def ref13_put_2 (n : Nat) (go0 : ref13_put_s0 → Option ref13_put_a) (v0 : Lv) (v1 v2 : Int) : Option ref13_put_a :=
  (bif (decide (v2 < (v0.length : Int))) then bif (decide (0 ≤ v2)) then (bif (decide ((cI v0 v2 0) < v1)) then bif ((decide ((-9223372036854775808) ≤ (v2 + 1))) && (decide ((v2 + 1) ≤ 9223372036854775807))) then go0 (v2 + 1) else none
  else (bif (decide ((cI v0 v2 0) = v1)) then some v0
  else bif (decide (v2 ≤ (v0.length : Int))) then bif (decide ((v0.length : Int) ≤ (v0.length : Int))) then bif (decide (((((([] : Lv) ++ [[(AV.int v1)]]) ++ (List.drop (v2).toNat (List.take ((v0.length : Int)).toNat v0))).length : Int) * 8) ≤ 140737488355328)) then bif (decide (((((List.take (v2).toNat v0) ++ ((([] : Lv) ++ [[(AV.int v1)]]) ++ (List.drop (v2).toNat (List.take ((v0.length : Int)).toNat v0)))).length : Int) * 8) ≤ 140737488355328)) then some ((List.take (v2).toNat v0) ++ ((([] : Lv) ++ [[(AV.int v1)]]) ++ (List.drop (v2).toNat (List.take ((v0.length : Int)).toNat v0)))) else none else none else none else none)) else none
  else bif (decide (0 ≤ v2)) then bif (decide (v2 ≤ (v0.length : Int))) then bif (decide ((v0.length : Int) ≤ (v0.length : Int))) then bif (decide (((((([] : Lv) ++ [[(AV.int v1)]]) ++ (List.drop (v2).toNat (List.take ((v0.length : Int)).toNat v0))).length : Int) * 8) ≤ 140737488355328)) then bif (decide (((((List.take (v2).toNat v0) ++ ((([] : Lv) ++ [[(AV.int v1)]]) ++ (List.drop (v2).toNat (List.take ((v0.length : Int)).toNat v0)))).length : Int) * 8) ≤ 140737488355328)) then some ((List.take (v2).toNat v0) ++ ((([] : Lv) ++ [[(AV.int v1)]]) ++ (List.drop (v2).toNat (List.take ((v0.length : Int)).toNat v0)))) else none else none else none else none else none)
def ref13_put_1 (n : Nat) (v0 : Lv) (v1 : Int) : Option ref13_put_a :=
  (iterF (fun go0 s => ref13_put_2 n go0 v0 v1 s) n (0 : ref13_put_s0))
def ref13_put (n : Nat) (v0 : Lv) (v1 : Int) : Option ref13_put_a := ref13_put_1 n v0 v1
def ref13_put_t : FnT := ⟨[(false, [(.sl (.cons .int .nil))]), (false, [.int])], (.row 1000003 (.cons .int .nil)), fun n (s : Lv × Int) => ref13_put n s.1 s.2⟩
theorem ref13_put_ok : ref13_put_t.ok Tryz.prog 216 := FnT.ok_of (cfg := ⟨[((216, 2, 0), .inv [(.tmp 5 .int)])], consD2, [], []⟩) (tab := ref13_Same_T) (mt := mt0) pfit ref13_Same_T_ok mt0_ok (fun s fn hf => by rw [Tryz.func216] at hf; cases hf; kernel_rfl) (fun n s => by kernel_rfl)
def ref13_put_T : Tab := (216, ref13_put_t) :: ref13_Same_T
theorem ref13_put_T_ok : ref13_put_T.ok Tryz.prog := Tab.ok_cons ref13_put_ok ref13_Same_T_ok
/-! dialtone/dialtoneref13.edges -/
abbrev ref13_edges_a := Lv
abbrev ref13_edges_s0 := Lv × Int
def ref13_edges_3 (n : Nat) (go0 : ref13_edges_s0 → Option ref13_edges_a) (v1 v4 : Lv) (v5 : Int) : Option ref13_edges_a :=
  (bif (decide (v5 < (v1.length : Int))) then bif (decide (0 ≤ v5)) then (ref13_put n v4 (cI v1 v5 0)).bind fun y6 =>
  (ref13_put n y6 (cI v1 v5 1)).bind fun y7 =>
  bif ((decide ((-9223372036854775808) ≤ (v5 + 1))) && (decide ((v5 + 1) ≤ 9223372036854775807))) then go0 (y7, (v5 + 1)) else none else none
  else some v4)
def ref13_edges_2 (n : Nat) (go0 : ref13_edges_s0 → Option ref13_edges_a) (v0 v1 v2 : Lv) (v3 : Int) : Option ref13_edges_a :=
  (bif (decide (v3 < (v0.length : Int))) then bif (decide (0 ≤ v3)) then (ref13_put n v2 (cI v0 v3 0)).bind fun y4 =>
  (ref13_put n y4 (cI v0 v3 1)).bind fun y5 =>
  bif ((decide ((-9223372036854775808) ≤ (v3 + 1))) && (decide ((v3 + 1) ≤ 9223372036854775807))) then go0 (y5, (v3 + 1)) else none else none
  else (iterF (fun go0 s => ref13_edges_3 n go0 v1 s.1 s.2) n ((v2, 0) : ref13_edges_s0)))
def ref13_edges_1 (n : Nat) (v0 v1 : Lv) : Option ref13_edges_a :=
  (iterF (fun go0 s => ref13_edges_2 n go0 v0 v1 s.1 s.2) n ((((([] : Lv) ++ [[(AV.int 0)]]) ++ [[(AV.int 100000000)]]), 0) : ref13_edges_s0))
def ref13_edges (n : Nat) (v0 v1 : Lv) : Option ref13_edges_a := ref13_edges_1 n v0 v1
def ref13_edges_t : FnT := ⟨[(false, [(.sl (.cons .int (.cons .int (.cons .int .nil))))]), (false, [(.sl (.cons .int (.cons .int (.cons .int .nil))))])], (.row 1000003 (.cons .int .nil)), fun n (s : Lv × Lv) => ref13_edges n s.1 s.2⟩
theorem ref13_edges_ok : ref13_edges_t.ok Tryz.prog 197 := FnT.ok_of (cfg := ⟨[((197, 3, 1), .inv [(.tmp 5 (.sl (.cons .int .nil))), (.tmp 6 .int)]), ((197, 7, 3), .inv [(.tmp 5 (.sl (.cons .int .nil))), (.tmp 7 .int)])], consD2, [], []⟩) (tab := ref13_put_T) (mt := mt0) pfit ref13_put_T_ok mt0_ok (fun s fn hf => by rw [Tryz.func197] at hf; cases hf; kernel_rfl) (fun n s => by kernel_rfl)
def ref13_edges_T : Tab := (197, ref13_edges_t) :: ref13_put_T
theorem ref13_edges_T_ok : ref13_edges_T.ok Tryz.prog := Tab.ok_cons ref13_edges_ok ref13_put_T_ok
end
end Go.Proofs.YtgckmifmjiklmaaGreat
