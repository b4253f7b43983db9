/-
  Plain functions for functions of the program, each with its contract (printed by decomp.py).
-/
import Derived.Test.YtgckmifmjiklmaaSxP
import Derived.Test.YtgckmifmjiklmaaSx25
import Derived.Test.YtgckmifmjiklmaaD13
set_option linter.unusedSimpArgs false
set_option linter.unusedVariables false
set_option maxRecDepth 100000
namespace Go.Proofs.Ytgckmifmjiklmaa
open Go Go.Sx
noncomputable section
def consE2 : List Nat := [5, 6, 7, 8, 9, 10, 11, 12, 14, 15, 16, 17, 18, 19, 20, 22, 23, 24, 25, 26, 27, 29, 30, 31, 32, 33, 41, 44, 47, 50, 57, 58, 66, 67, 73, 74, 75, 77, 82, 87, 88, 91, 94, 95, 1000006, 1000026, 1000082, 1000087, 1000095]
/-! dialtone/dialtonelaw42.MergeBack -/
abbrev law42_MergeBack_a := Bool
def law42_MergeBack_1 (n : Nat) (v0 v1 v2 : Int) (v3 v4 : Lv) (v5 v6 v7 v8 v9 : Int) : Option law42_MergeBack_a :=
  (law42_sane n ).bind fun y10 =>
  (bif (!y10) then some false
  else (law42_made n v0 v1 v2 v3 v4).bind fun y11 =>
  (ref13_Piece n v5 v6).bind fun y17 =>
  (law42_pick n v8 8).bind fun y19 =>
  (law42_pick n v9 8).bind fun y20 =>
  (law42_pick n v7 2001).bind fun y21 =>
  bif ((decide ((-9223372036854775808) ≤ (y21 - 1000))) && (decide ((y21 - 1000) ≤ 9223372036854775807))) then (merge_Step n y11.1 y11.2.1 y11.2.2.1 y11.2.2.2.1 y11.2.2.2.2.1 2 0 y19 y20 0 y17.1 y17.2 (y21 - 1000)).bind fun y22 =>
  (bif (!(decide (y22.2.2.2.2.2 = 0))) then (bif (decide (y22.2.2.2.2.2 = 420)) then bif (decide (0 ≤ y19)) then (bif (!(decide ((Int.tmod (IOp.f .shr y11.1 y19) 2) = 1))) then some true
  else bif (decide (0 ≤ y20)) then some (decide ((Int.tmod (IOp.f .shr y11.2.1 y20) 2) = 1)) else none) else none
  else some false)
  else (merge_Step n y22.1 y22.2.1 y22.2.2.1 y22.2.2.2.1 y22.2.2.2.2.1 1 0 y20 y19 0 0 0 0).bind fun y28 =>
  (bif (!(decide (y28.2.2.2.2.2 = 0))) then some false
  else bif (decide (0 ≤ y20)) then (bif (!(decide (y28.2.1 = (IOp.f .or y11.2.1 (IOp.f .shl 1 y20))))) then some false
  else (block_Only n y11.2.2.1 y17.1 y17.2).bind fun y34 =>
  (block_Only n y22.2.2.1 y17.1 y17.2).bind fun y36 =>
  (bif (decide (y34.2 = 0)) then (bif (decide (y36.2 = 0)) then (ref42_Same n y28.1 y11.2.1 y28.2.2.1 y28.2.2.2.1 y28.2.2.2.2.1 y11.1 y11.2.1 y11.2.2.1 y11.2.2.2.1 y11.2.2.2.2.1).bind fun y38 =>
  (bif y38 then (block_Count n y36.1 y20).bind fun y39 =>
  (block_Count n y34.1 y19).bind fun y40 =>
  (bif (decide (y39 = y40)) then (block_Count n y22.2.2.1 y20).bind fun y41 =>
  (block_Count n y34.1 y19).bind fun y42 =>
  (bif (decide (y41 = y42)) then (block_Count n y36.1 y19).bind fun y43 =>
  some (decide (y43 = 0))
  else some false)
  else some false)
  else some false)
  else some false)
  else some false)) else none)) else none)
def law42_MergeBack (n : Nat) (v0 v1 v2 : Int) (v3 v4 : Lv) (v5 v6 v7 v8 v9 : Int) : Option law42_MergeBack_a := law42_MergeBack_1 n v0 v1 v2 v3 v4 v5 v6 v7 v8 v9
def law42_MergeBack_t : FnT := ⟨[(true, [.int, .int, .int]), (false, [(.sl (.cons .int (.cons .int (.cons .int .nil))))]), (false, [(.sl (.cons .int (.cons .int (.cons .int .nil))))]), (true, [.int, .int]), (false, [.int]), (false, [.int]), (false, [.int])], .b, fun n (s : Int × Int × Int × Lv × Lv × Int × Int × Int × Int × Int) => law42_MergeBack n s.1 s.2.1 s.2.2.1 s.2.2.2.1 s.2.2.2.2.1 s.2.2.2.2.2.1 s.2.2.2.2.2.2.1 s.2.2.2.2.2.2.2.1 s.2.2.2.2.2.2.2.2.1 s.2.2.2.2.2.2.2.2.2⟩
theorem law42_MergeBack_ok : law42_MergeBack_t.ok Try.prog 4 := FnT.ok_of (cfg := ⟨[], consE2, [], []⟩) (tab := law42_sane_T) (mt := mt0) pfit law42_sane_T_ok mt0_ok (fun s fn hf => by rw [Try.func4] at hf; cases hf; kernel_rfl) (fun n s => by kernel_rfl)
def law42_MergeBack_T : Tab := (4, law42_MergeBack_t) :: law42_sane_T
theorem law42_MergeBack_T_ok : law42_MergeBack_T.ok Try.prog := Tab.ok_cons law42_MergeBack_ok law42_sane_T_ok
end
end Go.Proofs.Ytgckmifmjiklmaa
