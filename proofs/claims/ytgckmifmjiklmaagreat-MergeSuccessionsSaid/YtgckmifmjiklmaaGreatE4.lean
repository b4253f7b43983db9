/-
  Plain functions for functions of the program, each with its contract (printed by decomp.py).
-/
import Derived.Test.YtgckmifmjiklmaaGreatSxP
import Derived.Test.YtgckmifmjiklmaaGreatSx25
import Derived.Test.YtgckmifmjiklmaaGreatN4
set_option linter.unusedSimpArgs false
set_option linter.unusedVariables false
set_option maxRecDepth 100000
namespace Go.Proofs.YtgckmifmjiklmaaGreat
open Go Go.Sx
noncomputable section
def consE4 : List Nat := [11, 12, 13, 14, 15, 16, 17, 18, 19, 20, 21, 22, 23, 24, 25, 26, 27, 28, 29, 30, 32, 33, 34, 35, 36, 37, 38, 40, 46, 47, 51, 52, 54, 55, 56, 57, 58, 59, 61, 62, 63, 64, 66, 67, 69, 80, 83, 87, 90, 91, 92, 95, 96, 115, 116, 121, 122, 127, 128, 164, 165, 166, 197, 198, 201, 204, 205, 216, 229, 1000012, 1000056, 1000083, 1000197, 1000216, 1000229]
/-! dialtone/dialtonelaw42.MergeSuccessions -/
abbrev law42_MergeSuccessions_a := Bool
abbrev law42_MergeSuccessions_s0 := Bool × Int
abbrev law42_MergeSuccessions_s1 := Int
def law42_MergeSuccessions_4 (n : Nat) (go0 : law42_MergeSuccessions_s0 → Option law42_MergeSuccessions_a) (v16 : Lv) (v21 v29 v37 : Int) (v43 : Bool) (v44 : Int) : Option law42_MergeSuccessions_a :=
  (bif (decide (v44 < (v16.length : Int))) then (bif v43 then bif ((decide ((-9223372036854775808) ≤ (v44 + 1))) && (decide ((v44 + 1) ≤ 9223372036854775807))) then go0 (true, (v44 + 1)) else none
  else bif (decide (0 ≤ v44)) then (bif (decide ((cI v16 v44 0) = 2)) then bif ((decide ((-9223372036854775808) ≤ (v44 + 1))) && (decide ((v44 + 1) ≤ 9223372036854775807))) then go0 ((decide ((cI v16 v44 2) = v21)), (v44 + 1)) else none
  else bif ((decide ((-9223372036854775808) ≤ (v44 + 1))) && (decide ((v44 + 1) ≤ 9223372036854775807))) then go0 (false, (v44 + 1)) else none) else none)
  else bif (decide (0 ≤ v21)) then (bif (!(decide ((Int.tmod (IOp.f .shr v29 v21) 2) = 1))) then some true
  else (bif v43 then some true
  else some (decide (v37 = v21)))) else none)
def law42_MergeSuccessions_3 (n : Nat) (go0 : law42_MergeSuccessions_s1 → Option law42_MergeSuccessions_a) (v16 : Lv) (v21 v23 v24 v29 v37 v42 : Int) : Option law42_MergeSuccessions_a :=
  (bif (decide (v42 < 8)) then bif (decide (0 ≤ v42)) then (bif (decide ((Int.tmod (IOp.f .shr v24 v42) 2) = 1)) then (bif (!(decide ((Int.tmod (IOp.f .shr v23 v42) 2) = 1))) then (bif (decide ((Int.tmod (IOp.f .shr v29 v42) 2) = 1)) then some false
  else bif ((decide ((-9223372036854775808) ≤ (v42 + 1))) && (decide ((v42 + 1) ≤ 9223372036854775807))) then go0 (v42 + 1) else none)
  else bif ((decide ((-9223372036854775808) ≤ (v42 + 1))) && (decide ((v42 + 1) ≤ 9223372036854775807))) then go0 (v42 + 1) else none)
  else bif ((decide ((-9223372036854775808) ≤ (v42 + 1))) && (decide ((v42 + 1) ≤ 9223372036854775807))) then go0 (v42 + 1) else none) else none
  else (iterF (fun go0 s => law42_MergeSuccessions_4 n go0 v16 v21 v29 v37 s.1 s.2) n ((false, 0) : law42_MergeSuccessions_s0)))
def law42_MergeSuccessions_2 (n : Nat) (v0 v1 v2 : Int) (v3 v4 : Lv) (v5 v6 v7 v8 : Int) (v9 : Bool) : Option law42_MergeSuccessions_a :=
  (bif (!v9) then some false
  else (law42_made n v0 v1 v2 v3 ([] : Lv)).bind fun y10 =>
  (ref42_Events n y10.1 y10.2.1 y10.2.2.1 y10.2.2.2.1 y10.2.2.2.2.1 v4).bind fun y16 =>
  (law42_pick n v7 40).bind fun y17 =>
  (law42_pick n v8 40).bind fun y18 =>
  (law42_pick n v7 40).bind fun y19 =>
  (law42_pick n v8 40).bind fun y20 =>
  (law42_pick n v5 8).bind fun y21 =>
  (law42_pick n v6 61).bind fun y22 =>
  (merge_At n y10.1 y10.2.1 y10.2.2.1 y10.2.2.2.1 y10.2.2.2.2.1 y16 (imin y17 y18)).bind fun y23 =>
  (merge_At n y10.1 y10.2.1 y10.2.2.1 y10.2.2.2.1 y10.2.2.2.2.1 y16 (imax y19 y20)).bind fun y29 =>
  (merge_Successor n y10.1 y10.2.1 y10.2.2.1 y10.2.2.2.1 y10.2.2.2.2.1 y16 y21 y22 (imin y17 y18)).bind fun y35 =>
  (merge_Successor n y10.1 y10.2.1 y10.2.2.1 y10.2.2.2.1 y10.2.2.2.2.1 y16 y21 y22 (imax y19 y20)).bind fun y37 =>
  (law42_after n y16 (imin y17 y18)).bind fun y39 =>
  (merge_Successor n y23.1 y23.2.1 y23.2.2.1 y23.2.2.2.1 y23.2.2.2.2.1 y39 y35.1 y22 (imax y19 y20)).bind fun y40 =>
  (bif (!(decide (y23.2.2.2.2.2 = 0))) then some false
  else (bif (!(decide (y29.2.2.2.2.2 = 0))) then some false
  else (bif (!(decide (y35.2 = 0))) then some false
  else (bif (!(decide (y37.2 = 0))) then some false
  else (bif (!(decide (y40.2 = 0))) then some false
  else (bif (!(decide (y37.1 = y40.1))) then some false
  else (bif (!(decide ((IOp.f .andNot y23.2.1 y29.2.1) = 0))) then some false
  else (iterF (fun go0 s => law42_MergeSuccessions_3 n go0 y16 y21 y23.1 y23.2.1 y29.1 y37.1 s) n (0 : law42_MergeSuccessions_s1))))))))))
def law42_MergeSuccessions_1 (n : Nat) (v0 v1 v2 : Int) (v3 v4 : Lv) (v5 v6 v7 v8 : Int) : Option law42_MergeSuccessions_a :=
  (law42_sane n ).bind fun y9 =>
  law42_MergeSuccessions_2 n v0 v1 v2 v3 v4 v5 v6 v7 v8 y9
def law42_MergeSuccessions (n : Nat) (v0 v1 v2 : Int) (v3 v4 : Lv) (v5 v6 v7 v8 : Int) : Option law42_MergeSuccessions_a := law42_MergeSuccessions_1 n v0 v1 v2 v3 v4 v5 v6 v7 v8
def law42_MergeSuccessions_t : FnT := ⟨[(true, [.int, .int, .int]), (false, [(.sl (.cons .int (.cons .int (.cons .int .nil))))]), (false, [(.sl (.cons .int (.cons .int (.cons .int (.cons .int (.cons .int (.cons .int (.cons .int .nil))))))))]), (false, [.int]), (false, [.int]), (false, [.int]), (false, [.int])], .b, fun n (s : Int × Int × Int × Lv × Lv × Int × Int × Int × Int) => law42_MergeSuccessions n s.1 s.2.1 s.2.2.1 s.2.2.2.1 s.2.2.2.2.1 s.2.2.2.2.2.1 s.2.2.2.2.2.2.1 s.2.2.2.2.2.2.2.1 s.2.2.2.2.2.2.2.2⟩
theorem law42_MergeSuccessions_ok : law42_MergeSuccessions_t.ok Tryz.prog 4 := FnT.ok_of (cfg := ⟨[((4, 18, 15), .inv [(.tmp 33 .int)]), ((4, 24, 16), .inv [(.tmp 34 .bool), (.tmp 35 .int)])], consE4, [], []⟩) (tab := law42_after_T) (mt := mt0) pfit law42_after_T_ok mt0_ok (fun s fn hf => by rw [Tryz.func4] at hf; cases hf; kernel_rfl) (fun n s => by kernel_rfl)
def law42_MergeSuccessions_T : Tab := (4, law42_MergeSuccessions_t) :: law42_after_T
theorem law42_MergeSuccessions_T_ok : law42_MergeSuccessions_T.ok Tryz.prog := Tab.ok_cons law42_MergeSuccessions_ok law42_after_T_ok
end
end Go.Proofs.YtgckmifmjiklmaaGreat
