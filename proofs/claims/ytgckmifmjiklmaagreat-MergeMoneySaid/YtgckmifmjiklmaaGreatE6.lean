/-
  Plain functions for functions of the program, each with its contract (printed by decomp.py).
-/
import Derived.Test.YtgckmifmjiklmaaGreatSxP
import Derived.Test.YtgckmifmjiklmaaGreatSx25
import Derived.Test.YtgckmifmjiklmaaGreatN6
set_option linter.unusedSimpArgs false
set_option linter.unusedVariables false
set_option maxRecDepth 100000
namespace Go.Proofs.YtgckmifmjiklmaaGreat
open Go Go.Sx
noncomputable section
def consE6 : List Nat := [11, 12, 13, 14, 15, 16, 17, 18, 19, 20, 21, 22, 23, 24, 25, 26, 27, 28, 29, 30, 32, 33, 34, 35, 36, 37, 38, 40, 46, 47, 51, 52, 54, 55, 56, 57, 58, 59, 61, 62, 63, 64, 66, 67, 69, 80, 83, 87, 90, 91, 92, 95, 96, 115, 116, 121, 122, 127, 128, 164, 165, 166, 197, 198, 201, 204, 205, 216, 229, 1000012, 1000056, 1000083, 1000197, 1000216, 1000229]
/-! dialtone/dialtonelaw42.MergeMoney -/
abbrev law42_MergeMoney_a := Bool
abbrev law42_MergeMoney_s0 := Int × Int
def law42_MergeMoney_2 (n : Nat) (go0 : law42_MergeMoney_s0 → Option law42_MergeMoney_a) (v7 v8 : Int) (v9 v10 v11 v12 v13 : Lv) (v14 : Int) (v17 : Lv) (v21 v22 : Int) : Option law42_MergeMoney_a :=
  (bif (decide (v22 < 8)) then bif (decide (0 ≤ v22)) then bif (decide (v22 < (v17.length : Int))) then bif ((decide ((-9223372036854775808) ≤ (v21 + (cI v17 v22 0)))) && (decide ((v21 + (cI v17 v22 0)) ≤ 9223372036854775807))) then (bif (!(decide ((Int.tmod (IOp.f .shr v14 v22) 2) = 1))) then (bif (!(decide ((cI v17 v22 0) = 0))) then some false
  else bif ((decide ((-9223372036854775808) ≤ (v22 + 1))) && (decide ((v22 + 1) ≤ 9223372036854775807))) then go0 ((v21 + (cI v17 v22 0)), (v22 + 1)) else none)
  else bif ((decide ((-9223372036854775808) ≤ (v22 + 1))) && (decide ((v22 + 1) ≤ 9223372036854775807))) then go0 ((v21 + (cI v17 v22 0)), (v22 + 1)) else none) else none else none else none
  else (netting_Balances n v12).bind fun y23 =>
  (merge_Debts n v7 v8 v9 v10 v11 v13 v12).bind fun y25 =>
  (netting_Balances n y25.1).bind fun y27 =>
  (bif (decide (v21 = 0)) then (bif (decide (y23.2 = 0)) then (bif (decide (y25.2 = 0)) then (bif (decide (y27.2 = 0)) then (ref42_Ints n y23.1 v10).bind fun y29 =>
  (bif y29 then (ref42_Ints n y27.1 v17).bind fun y30 =>
  (bif y30 then (netting_Valid n y25.1).bind fun y31 =>
  some y31
  else some false)
  else some false)
  else some false)
  else some false)
  else some false)
  else some false))
def law42_MergeMoney_1 (n : Nat) (v0 v1 v2 : Int) (v3 v4 v5 : Lv) : Option law42_MergeMoney_a :=
  (law42_sane n ).bind fun y6 =>
  (bif (!y6) then some false
  else (law42_made n v0 v1 v2 v3 v4).bind fun y7 =>
  (ref42_Events n y7.1 y7.2.1 y7.2.2.1 y7.2.2.2.1 y7.2.2.2.2.1 v5).bind fun y13 =>
  (merge_Run n y7.1 y7.2.1 y7.2.2.1 y7.2.2.2.1 y7.2.2.2.2.1 y13).bind fun y14 =>
  (bif (!(decide (y14.2.2.2.2.2.2 = 0))) then some false
  else (bif (!(decide (y14.2.2.2.2.2.1 = (y13.length : Int)))) then some false
  else (bif (!(decide ((y14.2.2.2.1.length : Int) = 8))) then some false
  else (iterF (fun go0 s => law42_MergeMoney_2 n go0 y7.1 y7.2.1 y7.2.2.1 y7.2.2.2.1 y7.2.2.2.2.1 y7.2.2.2.2.2 y13 y14.1 y14.2.2.2.1 s.1 s.2) n ((0, 0) : law42_MergeMoney_s0))))))
def law42_MergeMoney (n : Nat) (v0 v1 v2 : Int) (v3 v4 v5 : Lv) : Option law42_MergeMoney_a := law42_MergeMoney_1 n v0 v1 v2 v3 v4 v5
def law42_MergeMoney_t : FnT := ⟨[(true, [.int, .int, .int]), (false, [(.sl (.cons .int (.cons .int (.cons .int .nil))))]), (false, [(.sl (.cons .int (.cons .int (.cons .int .nil))))]), (false, [(.sl (.cons .int (.cons .int (.cons .int (.cons .int (.cons .int (.cons .int (.cons .int .nil))))))))])], .b, fun n (s : Int × Int × Int × Lv × Lv × Lv) => law42_MergeMoney n s.1 s.2.1 s.2.2.1 s.2.2.2.1 s.2.2.2.2.1 s.2.2.2.2.2⟩
theorem law42_MergeMoney_ok : law42_MergeMoney_t.ok Tryz.prog 6 := FnT.ok_of (cfg := ⟨[((6, 11, 9), .inv [(.tmp 16 .int), (.tmp 17 .int)])], consE6, [], []⟩) (tab := netting_Balances_T) (mt := mt0) pfit netting_Balances_T_ok mt0_ok (fun s fn hf => by rw [Tryz.func6] at hf; cases hf; kernel_rfl) (fun n s => by kernel_rfl)
def law42_MergeMoney_T : Tab := (6, law42_MergeMoney_t) :: netting_Balances_T
theorem law42_MergeMoney_T_ok : law42_MergeMoney_T.ok Tryz.prog := Tab.ok_cons law42_MergeMoney_ok netting_Balances_T_ok
end
end Go.Proofs.YtgckmifmjiklmaaGreat
