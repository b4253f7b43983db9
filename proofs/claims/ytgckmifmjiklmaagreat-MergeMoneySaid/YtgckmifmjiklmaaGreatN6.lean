/-
  Plain functions for functions of the program, each with its contract (printed by decomp.py).
-/
import Derived.Test.YtgckmifmjiklmaaGreatSxP
import Derived.Test.YtgckmifmjiklmaaGreatSx25
import Derived.Test.YtgckmifmjiklmaaGreatR1
set_option linter.unusedSimpArgs false
set_option linter.unusedVariables false
set_option maxRecDepth 100000
namespace Go.Proofs.YtgckmifmjiklmaaGreat
open Go Go.Sx
noncomputable section
def consN6 : List Nat := [11, 12, 13, 14, 15, 16, 17, 18, 19, 20, 21, 22, 23, 24, 25, 26, 27, 28, 29, 30, 31, 32, 33, 34, 35, 36, 37, 38, 40, 46, 47, 51, 52, 54, 55, 56, 57, 58, 59, 61, 62, 63, 64, 66, 67, 69, 80, 83, 87, 90, 91, 92, 95, 96, 115, 116, 121, 122, 127, 128, 164, 165, 166, 197, 198, 201, 204, 205, 216, 229, 1000012, 1000056, 1000197, 1000216, 1000229]
/-! dialtone/netting.Valid -/
abbrev netting_Valid_a := Bool
abbrev netting_Valid_s0 := Int
def netting_Valid_2 (n : Nat) (go0 : netting_Valid_s0 → Option netting_Valid_a) (v0 : Lv) (v1 : Int) : Option netting_Valid_a :=
  (bif (decide (v1 < (v0.length : Int))) then bif (decide (0 ≤ v1)) then (bif (decide (0 ≤ (cI v0 v1 0))) then (bif (!(decide ((cI v0 v1 0) ≤ 7))) then some (!(decide (0 ≤ v1)))
  else (bif (decide (0 ≤ (cI v0 v1 1))) then (bif (!(decide ((cI v0 v1 1) ≤ 7))) then some (!(decide (0 ≤ v1)))
  else (bif (decide ((cI v0 v1 0) = (cI v0 v1 1))) then some (!(decide (0 ≤ v1)))
  else (bif (decide (1 ≤ (cI v0 v1 2))) then (bif (!(decide ((cI v0 v1 2) ≤ 1000000000))) then some (!(decide (0 ≤ v1)))
  else bif ((decide ((-9223372036854775808) ≤ (v1 + 1))) && (decide ((v1 + 1) ≤ 9223372036854775807))) then go0 (v1 + 1) else none)
  else some (!(decide (0 ≤ v1))))))
  else some (!(decide (0 ≤ v1)))))
  else some (!(decide (0 ≤ v1)))) else none
  else some true)
def netting_Valid_1 (n : Nat) (v0 : Lv) : Option netting_Valid_a :=
  (bif (decide ((v0.length : Int) ≤ 60)) then (iterF (fun go0 s => netting_Valid_2 n go0 v0 s) n (0 : netting_Valid_s0))
  else some false)
def netting_Valid (n : Nat) (v0 : Lv) : Option netting_Valid_a := netting_Valid_1 n v0
def netting_Valid_t : FnT := ⟨[(false, [(.sl (.cons .int (.cons .int (.cons .int .nil))))])], .b, fun n (s : Lv) => netting_Valid n s⟩
theorem netting_Valid_ok : netting_Valid_t.ok Tryz.prog 35 := FnT.ok_of (cfg := ⟨[((131, 2, 1), .inv [(.tmp 8 .int)])], consN6, [], []⟩) (tab := ref42_Events_T) (mt := mt0) pfit ref42_Events_T_ok mt0_ok (fun s fn hf => by rw [Tryz.func35] at hf; cases hf; kernel_rfl) (fun n s => by kernel_rfl)
def netting_Valid_T : Tab := (35, netting_Valid_t) :: ref42_Events_T
theorem netting_Valid_T_ok : netting_Valid_T.ok Tryz.prog := Tab.ok_cons netting_Valid_ok ref42_Events_T_ok
/-! dialtone/netting.Balances -/
abbrev netting_Balances_a := Lv × Int
abbrev netting_Balances_s0 := Int × Lv
def netting_Balances_2 (n : Nat) (go0 : netting_Balances_s0 → Option netting_Balances_a) (v0 : Lv) (v2 : Int) (v3 : Lv) : Option netting_Balances_a :=
  (bif (decide (v2 < (v0.length : Int))) then bif (decide (0 ≤ v2)) then bif (decide (0 ≤ (cI v0 v2 0))) then bif (decide ((cI v0 v2 0) < (v3.length : Int))) then bif ((decide ((-9223372036854775808) ≤ ((cI v3 (cI v0 v2 0) 0) - (cI v0 v2 2)))) && (decide (((cI v3 (cI v0 v2 0) 0) - (cI v0 v2 2)) ≤ 9223372036854775807))) then bif (decide (0 ≤ (cI v0 v2 1))) then bif (decide ((cI v0 v2 1) < (v3.length : Int))) then bif ((decide ((-9223372036854775808) ≤ ((cI (List.modify v3 ((cI v0 v2 0)).toNat (fun r => r.set 0 (AV.int ((cI v3 (cI v0 v2 0) 0) - (cI v0 v2 2))))) (cI v0 v2 1) 0) + (cI v0 v2 2)))) && (decide (((cI (List.modify v3 ((cI v0 v2 0)).toNat (fun r => r.set 0 (AV.int ((cI v3 (cI v0 v2 0) 0) - (cI v0 v2 2))))) (cI v0 v2 1) 0) + (cI v0 v2 2)) ≤ 9223372036854775807))) then bif ((decide ((-9223372036854775808) ≤ (v2 + 1))) && (decide ((v2 + 1) ≤ 9223372036854775807))) then go0 ((v2 + 1), (List.modify (List.modify v3 ((cI v0 v2 0)).toNat (fun r => r.set 0 (AV.int ((cI v3 (cI v0 v2 0) 0) - (cI v0 v2 2))))) ((cI v0 v2 1)).toNat (fun r => r.set 0 (AV.int ((cI (List.modify v3 ((cI v0 v2 0)).toNat (fun r => r.set 0 (AV.int ((cI v3 (cI v0 v2 0) 0) - (cI v0 v2 2))))) (cI v0 v2 1) 0) + (cI v0 v2 2)))))) else none else none else none else none else none else none else none else none
  else some (v3, 0))
def netting_Balances_1 (n : Nat) (v0 : Lv) : Option netting_Balances_a :=
  (netting_Valid n v0).bind fun y1 =>
  (bif (!y1) then some (([] : Lv), 390)
  else (iterF (fun go0 s => netting_Balances_2 n go0 v0 s.1 s.2) n ((0, (List.replicate ((8 : Int)).toNat [(AV.int 0)])) : netting_Balances_s0)))
def netting_Balances (n : Nat) (v0 : Lv) : Option netting_Balances_a := netting_Balances_1 n v0
def netting_Balances_t : FnT := ⟨[(false, [(.sl (.cons .int (.cons .int (.cons .int .nil))))])], (.tup (.cons (.row 3 (.cons .int .nil)) (.cons .i .nil))), fun n (s : Lv) => netting_Balances n s⟩
theorem netting_Balances_ok : netting_Balances_t.ok Tryz.prog 33 := FnT.ok_of (cfg := ⟨[((93, 3, 1), .inv [(.tmp 9 .int), (.inrow 0 3 (.cons .int .nil))])], consN6, [], []⟩) (tab := netting_Valid_T) (mt := mt0) pfit netting_Valid_T_ok mt0_ok (fun s fn hf => by rw [Tryz.func33] at hf; cases hf; kernel_rfl) (fun n s => by kernel_rfl)
def netting_Balances_T : Tab := (33, netting_Balances_t) :: netting_Valid_T
theorem netting_Balances_T_ok : netting_Balances_T.ok Tryz.prog := Tab.ok_cons netting_Balances_ok netting_Valid_T_ok
end
end Go.Proofs.YtgckmifmjiklmaaGreat
