/-
  Plain functions for functions of the program, each with its contract (printed by decomp.py).
-/
import Derived.Test.YtgckmifmjiklmaaGreatSxP
import Derived.Test.YtgckmifmjiklmaaGreatSx25
import Derived.Test.YtgckmifmjiklmaaGreatR1
set_option linter.unusedSimpArgs false
set_option linter.unusedVariables false
set_option maxRecDepth 100000
namespace Go.Proofs.YtgckmifmjiklmaaGreat
open Go Go.Sx
noncomputable section
def consE5 : List Nat := [11, 12, 13, 14, 15, 16, 17, 18, 19, 20, 21, 22, 23, 24, 25, 26, 27, 28, 29, 30, 32, 33, 34, 35, 36, 37, 38, 40, 46, 47, 51, 52, 54, 55, 56, 57, 58, 59, 61, 62, 63, 64, 66, 67, 69, 80, 83, 87, 90, 91, 92, 95, 96, 115, 116, 121, 122, 127, 128, 164, 165, 166, 197, 198, 201, 204, 205, 216, 229, 1000012, 1000056, 1000083, 1000197, 1000216, 1000229]
/-! dialtone/dialtonelaw42.MergeLevels -/
abbrev law42_MergeLevels_a := Bool
def law42_MergeLevels_1 (n : Nat) (v0 v1 v2 : Int) (v3 v4 : Lv) (v5 v6 v7 : Int) : Option law42_MergeLevels_a :=
  (law42_sane n ).bind fun y8 =>
  (bif (!y8) then some false
  else (law42_made n v0 v1 v2 v3 ([] : Lv)).bind fun y9 =>
  (ref42_Events n y9.1 y9.2.1 y9.2.2.1 y9.2.2.2.1 y9.2.2.2.2.1 v4).bind fun y15 =>
  (law42_pick n v5 40).bind fun y16 =>
  (merge_At n y9.1 y9.2.1 y9.2.2.1 y9.2.2.2.1 y9.2.2.2.2.1 y15 y16).bind fun y17 =>
  (bif (!(decide (y17.2.2.2.2.2 = 0))) then some false
  else (bif (!(decide ((y17.2.2.2.2.1.length : Int) = 8))) then some false
  else (law42_pick n v6 8).bind fun y23 =>
  (law42_pick n v7 8).bind fun y24 =>
  bif (decide (0 ≤ y23)) then (bif (!(decide ((Int.tmod (IOp.f .shr y17.1 y23) 2) = 1))) then bif (decide (y23 < (y17.2.2.2.2.1.length : Int))) then some (decide ((cI y17.2.2.2.2.1 y23 0) = 0)) else none
  else bif (decide (0 ≤ y24)) then (bif (!(decide ((Int.tmod (IOp.f .shr y17.1 y24) 2) = 1))) then some true
  else bif (decide (y23 < (y17.2.2.2.2.1.length : Int))) then bif (decide (y24 < (y17.2.2.2.2.1.length : Int))) then bif ((decide ((-9223372036854775808) ≤ ((cI y17.2.2.2.2.1 y23 0) - (cI y17.2.2.2.2.1 y24 0)))) && (decide (((cI y17.2.2.2.2.1 y23 0) - (cI y17.2.2.2.2.1 y24 0)) ≤ 9223372036854775807))) then (bif (decide (((cI y17.2.2.2.2.1 y23 0) - (cI y17.2.2.2.2.1 y24 0)) < (-1))) then some false
  else (bif (decide (1 < ((cI y17.2.2.2.2.1 y23 0) - (cI y17.2.2.2.2.1 y24 0)))) then some false
  else (merge_Step n y17.1 y17.2.1 y17.2.2.1 y17.2.2.2.1 y17.2.2.2.2.1 4 0 y23 0 0 0 0 0).bind fun y25 =>
  (bif (decide (0 < ((cI y17.2.2.2.2.1 y23 0) - (cI y17.2.2.2.2.1 y24 0)))) then some (decide (y25.2.2.2.2.2 = 420))
  else (bif (decide (y25.2.2.2.2.2 = 420)) then some true
  else (bif (decide (y25.2.2.2.2.2 = 0)) then (merge_Valid n y25.1 y25.2.1 y25.2.2.1 y25.2.2.2.1 y25.2.2.2.2.1).bind fun y31 =>
  (bif y31 then bif (decide (y23 < (y25.2.2.2.2.1.length : Int))) then bif ((decide ((-9223372036854775808) ≤ ((cI y17.2.2.2.2.1 y23 0) + 1))) && (decide (((cI y17.2.2.2.2.1 y23 0) + 1) ≤ 9223372036854775807))) then (bif (decide ((cI y25.2.2.2.2.1 y23 0) = ((cI y17.2.2.2.2.1 y23 0) + 1))) then (ref13_Same n y25.2.2.1 y17.2.2.1).bind fun y32 =>
  some y32
  else some false) else none else none
  else some false)
  else some false))))) else none else none else none) else none) else none)))
def law42_MergeLevels (n : Nat) (v0 v1 v2 : Int) (v3 v4 : Lv) (v5 v6 v7 : Int) : Option law42_MergeLevels_a := law42_MergeLevels_1 n v0 v1 v2 v3 v4 v5 v6 v7
def law42_MergeLevels_t : FnT := ⟨[(true, [.int, .int, .int]), (false, [(.sl (.cons .int (.cons .int (.cons .int .nil))))]), (false, [(.sl (.cons .int (.cons .int (.cons .int (.cons .int (.cons .int (.cons .int (.cons .int .nil))))))))]), (false, [.int]), (false, [.int]), (false, [.int])], .b, fun n (s : Int × Int × Int × Lv × Lv × Int × Int × Int) => law42_MergeLevels n s.1 s.2.1 s.2.2.1 s.2.2.2.1 s.2.2.2.2.1 s.2.2.2.2.2.1 s.2.2.2.2.2.2.1 s.2.2.2.2.2.2.2⟩
theorem law42_MergeLevels_ok : law42_MergeLevels_t.ok Tryz.prog 5 := FnT.ok_of (cfg := ⟨[], consE5, [], []⟩) (tab := ref42_Events_T) (mt := mt0) pfit ref42_Events_T_ok mt0_ok (fun s fn hf => by rw [Tryz.func5] at hf; cases hf; kernel_rfl) (fun n s => by kernel_rfl)
def law42_MergeLevels_T : Tab := (5, law42_MergeLevels_t) :: ref42_Events_T
theorem law42_MergeLevels_T_ok : law42_MergeLevels_T.ok Tryz.prog := Tab.ok_cons law42_MergeLevels_ok ref42_Events_T_ok
end
end Go.Proofs.YtgckmifmjiklmaaGreat
