/-
  Plain functions for functions of the program, each with its contract (printed by decomp.py).
-/
import Derived.Test.YtgckmifmjiklmaaGreatSxP
import Derived.Test.YtgckmifmjiklmaaGreatSx25
import Derived.Test.YtgckmifmjiklmaaGreatD3
set_option linter.unusedSimpArgs false
set_option linter.unusedVariables false
set_option maxRecDepth 100000
namespace Go.Proofs.YtgckmifmjiklmaaGreat
open Go Go.Sx
noncomputable section
def consD4 : List Nat := [11, 12, 13, 14, 15, 16, 17, 18, 19, 20, 21, 22, 23, 24, 25, 26, 27, 28, 29, 30, 31, 32, 33, 34, 35, 36, 37, 38, 40, 46, 47, 51, 52, 54, 55, 56, 57, 58, 59, 61, 62, 63, 64, 66, 67, 69, 80, 83, 87, 90, 91, 92, 95, 96, 115, 116, 121, 122, 127, 128, 164, 165, 166, 197, 198, 201, 204, 205, 216, 229, 1000012, 1000056, 1000197, 1000216, 1000229]
/-! dialtone/dialtoneref13.Made -/
abbrev ref13_Made_a := Lv
abbrev ref13_Made_s0 := Lv × Int
def ref13_Made_2 (n : Nat) (go0 : ref13_Made_s0 → Option ref13_Made_a) (v0 v1 : Lv) (v2 : Int) : Option ref13_Made_a :=
  (bif (decide (v2 < (v0.length : Int))) then (bif (decide (v2 < 12)) then bif (decide (0 ≤ v2)) then (ref13_Piece n (cI v0 v2 0) (cI v0 v2 1)).bind fun y3 =>
  (ref13_pick n (cI v0 v2 2) 5).bind fun y5 =>
  (bif (decide (y5 < 4)) then bif ((decide ((-9223372036854775808) ≤ (2 * y5))) && (decide ((2 * y5) ≤ 9223372036854775807))) then (ref13_Give n v1 y3.1 y3.2 (2 * y5)).bind fun y6 =>
  bif ((decide ((-9223372036854775808) ≤ (v2 + 1))) && (decide ((v2 + 1) ≤ 9223372036854775807))) then go0 (y6.1, (v2 + 1)) else none else none
  else (ref13_Take n v1 y3.1 y3.2).bind fun y6 =>
  bif ((decide ((-9223372036854775808) ≤ (v2 + 1))) && (decide ((v2 + 1) ≤ 9223372036854775807))) then go0 (y6.1, (v2 + 1)) else none) else none
  else some v1)
  else some v1)
def ref13_Made_1 (n : Nat) (v0 : Lv) : Option ref13_Made_a :=
  (iterF (fun go0 s => ref13_Made_2 n go0 v0 s.1 s.2) n ((([] : Lv), 0) : ref13_Made_s0))
def ref13_Made (n : Nat) (v0 : Lv) : Option ref13_Made_a := ref13_Made_1 n v0
def ref13_Made_t : FnT := ⟨[(false, [(.sl (.cons .int (.cons .int (.cons .int .nil))))])], (.row 116 (.cons .int (.cons .int (.cons .int .nil)))), fun n (s : Lv) => ref13_Made n s⟩
theorem ref13_Made_ok : ref13_Made_t.ok Tryz.prog 115 := FnT.ok_of (cfg := ⟨[((115, 3, 0), .inv [(.tmprow 3 116 (.cons .int (.cons .int (.cons .int .nil)))), (.tmp 4 .int)])], consD4, [], []⟩) (tab := ref13_Overlay_T) (mt := mt0) pfit ref13_Overlay_T_ok mt0_ok (fun s fn hf => by rw [Tryz.func115] at hf; cases hf; kernel_rfl) (fun n s => by kernel_rfl)
def ref13_Made_T : Tab := (115, ref13_Made_t) :: ref13_Overlay_T
theorem ref13_Made_T_ok : ref13_Made_T.ok Tryz.prog := Tab.ok_cons ref13_Made_ok ref13_Overlay_T_ok
end
end Go.Proofs.YtgckmifmjiklmaaGreat
