/-
  Plain functions for functions of the program, each with its contract (printed by decomp.py).
-/
import Derived.Test.YtgckmifmjiklmaaGreatSxP
import Derived.Test.YtgckmifmjiklmaaGreatSx25
import Derived.Test.YtgckmifmjiklmaaGreatR1
set_option linter.unusedSimpArgs false
set_option linter.unusedVariables false
set_option maxRecDepth 100000
namespace Go.Proofs.YtgckmifmjiklmaaGreat
open Go Go.Sx
noncomputable section
def consN4 : List Nat := [11, 12, 13, 14, 15, 16, 17, 18, 19, 20, 21, 22, 23, 24, 25, 26, 27, 28, 29, 30, 32, 33, 34, 35, 36, 37, 38, 40, 46, 47, 51, 52, 54, 55, 56, 57, 58, 59, 61, 62, 63, 64, 66, 67, 69, 80, 83, 87, 90, 91, 92, 95, 96, 115, 116, 121, 122, 127, 128, 164, 165, 166, 197, 198, 201, 204, 205, 216, 229, 1000012, 1000056, 1000083, 1000197, 1000216, 1000229]
/-! dialtone/dialtonelaw42.after -/
abbrev law42_after_a := Lv
abbrev law42_after_s0 := Lv × Int
def law42_after_2 (n : Nat) (go0 : law42_after_s0 → Option law42_after_a) (v0 : Lv) (v1 : Int) (v2 : Lv) (v3 : Int) : Option law42_after_a :=
  (bif (decide (v3 < (v0.length : Int))) then bif (decide (0 ≤ v3)) then (bif (decide (v1 < (cI v0 v3 1))) then bif (decide ((((v2.length : Int) + 1) * 64) ≤ 140737488355328)) then bif ((decide ((-9223372036854775808) ≤ (v3 + 1))) && (decide ((v3 + 1) ≤ 9223372036854775807))) then go0 ((v2 ++ [[(AV.int (cI v0 v3 0)), (AV.int (cI v0 v3 1)), (AV.int (cI v0 v3 2)), (AV.int (cI v0 v3 3)), (AV.int (cI v0 v3 4)), (AV.int (cI v0 v3 5)), (AV.int (cI v0 v3 6)), (AV.int (cI v0 v3 7))]]), (v3 + 1)) else none else none
  else bif ((decide ((-9223372036854775808) ≤ (v3 + 1))) && (decide ((v3 + 1) ≤ 9223372036854775807))) then go0 (v2, (v3 + 1)) else none) else none
  else some v2)
def law42_after_1 (n : Nat) (v0 : Lv) (v1 : Int) : Option law42_after_a :=
  (iterF (fun go0 s => law42_after_2 n go0 v0 v1 s.1 s.2) n ((([] : Lv), 0) : law42_after_s0))
def law42_after (n : Nat) (v0 : Lv) (v1 : Int) : Option law42_after_a := law42_after_1 n v0 v1
def law42_after_t : FnT := ⟨[(false, [(.sl (.cons .int (.cons .int (.cons .int (.cons .int (.cons .int (.cons .int (.cons .int (.cons .int .nil)))))))))]), (false, [.int])], (.row 41 (.cons .int (.cons .int (.cons .int (.cons .int (.cons .int (.cons .int (.cons .int (.cons .int .nil))))))))), fun n (s : Lv × Int) => law42_after n s.1 s.2⟩
theorem law42_after_ok : law42_after_t.ok Tryz.prog 30 := FnT.ok_of (cfg := ⟨[((30, 3, 0), .inv [(.tmprow 5 41 (.cons .int (.cons .int (.cons .int (.cons .int (.cons .int (.cons .int (.cons .int (.cons .int .nil))))))))), (.tmp 6 .int)])], consN4, [], []⟩) (tab := ref42_Events_T) (mt := mt0) pfit ref42_Events_T_ok mt0_ok (fun s fn hf => by rw [Tryz.func30] at hf; cases hf; kernel_rfl) (fun n s => by kernel_rfl)
def law42_after_T : Tab := (30, law42_after_t) :: ref42_Events_T
theorem law42_after_T_ok : law42_after_T.ok Tryz.prog := Tab.ok_cons law42_after_ok ref42_Events_T_ok
end
end Go.Proofs.YtgckmifmjiklmaaGreat
