/-
  Plain functions for functions of the program, each with its contract (printed by decomp.py).
-/
import Derived.Test.YtgckmifmjiklmaaGreatSxP
import Derived.Test.YtgckmifmjiklmaaGreatSx25
import Derived.Test.YtgckmifmjiklmaaGreatN7
set_option linter.unusedSimpArgs false
set_option linter.unusedVariables false
set_option maxRecDepth 100000
namespace Go.Proofs.YtgckmifmjiklmaaGreat
open Go Go.Sx
noncomputable section
def consE7 : List Nat := [11, 12, 13, 14, 15, 16, 17, 18, 19, 20, 21, 22, 23, 24, 25, 26, 27, 28, 29, 30, 32, 33, 34, 35, 36, 37, 38, 40, 46, 47, 51, 52, 54, 55, 56, 57, 58, 59, 61, 62, 63, 64, 66, 67, 69, 80, 83, 87, 90, 91, 92, 95, 96, 115, 116, 121, 122, 127, 128, 164, 165, 166, 197, 198, 201, 204, 205, 216, 229, 1000012, 1000056, 1000083, 1000197, 1000216, 1000229]
/-! dialtone/dialtonelaw42.MergeNumbers -/
abbrev law42_MergeNumbers_a := Bool
abbrev law42_MergeNumbers_s0 := Int
def law42_MergeNumbers_2 (n : Nat) (go0 : law42_MergeNumbers_s0 → Option law42_MergeNumbers_a) (v7 : Int) (v8 : Bool) (v9 v10 : Int) (v11 v12 v13 v15 : Lv) (v17 : Int) (v19 : Lv) (v27 v28 v29 : Int) : Option law42_MergeNumbers_a :=
  (bif (decide (v29 < 2)) then bif (decide (0 ≤ v29)) then (block_Find n v11 (cI ((([] : Lv) ++ [[(AV.int v27)]]) ++ [[(AV.int v28)]]) v29 0)).bind fun y30 =>
  (block_Find n v19 (cI ((([] : Lv) ++ [[(AV.int v27)]]) ++ [[(AV.int v28)]]) v29 0)).bind fun y32 =>
  (bif (!(y30.2 == y32.2)) then some false
  else (bif (!y30.2) then bif ((decide ((-9223372036854775808) ≤ (v29 + 1))) && (decide ((v29 + 1) ≤ 9223372036854775807))) then go0 (v29 + 1) else none
  else (law42_pick n v7 40).bind fun y34 =>
  (merge_Successor n v9 v10 v11 v12 v13 v15 y30.1 (cI ((([] : Lv) ++ [[(AV.int v27)]]) ++ [[(AV.int v28)]]) v29 0) y34).bind fun y35 =>
  (bif (!(decide (y35.2 = 0))) then some false
  else (bif (!(decide (y35.1 = y32.1))) then some false
  else bif (decide (0 ≤ y32.1)) then (bif (!(decide ((Int.tmod (IOp.f .shr v17 y32.1) 2) = 1))) then some false
  else bif ((decide ((-9223372036854775808) ≤ (v29 + 1))) && (decide ((v29 + 1) ≤ 9223372036854775807))) then go0 (v29 + 1) else none) else none)))) else none
  else some v8)
def law42_MergeNumbers_1 (n : Nat) (v0 v1 v2 : Int) (v3 v4 : Lv) (v5 v6 v7 : Int) : Option law42_MergeNumbers_a :=
  (law42_sane n ).bind fun y8 =>
  (bif (!y8) then some false
  else (law42_made n v0 v1 v2 v3 ([] : Lv)).bind fun y9 =>
  (ref42_Events n y9.1 y9.2.1 y9.2.2.1 y9.2.2.2.1 y9.2.2.2.2.1 v4).bind fun y15 =>
  (law42_pick n v7 40).bind fun y16 =>
  (merge_At n y9.1 y9.2.1 y9.2.2.1 y9.2.2.2.1 y9.2.2.2.2.1 y15 y16).bind fun y17 =>
  (bif (!(decide (y17.2.2.2.2.2 = 0))) then some false
  else (merge_Valid n y9.1 y9.2.1 y9.2.2.1 y9.2.2.2.1 y9.2.2.2.2.1).bind fun y23 =>
  (bif (!y23) then some false
  else (merge_Valid n y17.1 y17.2.1 y17.2.2.1 y17.2.2.2.1 y17.2.2.2.2.1).bind fun y24 =>
  (bif (!y24) then some false
  else (law42_total n y17.2.2.1).bind fun y25 =>
  (law42_total n y9.2.2.1).bind fun y26 =>
  (bif (!(decide (y25 = y26))) then some false
  else (ref13_Near n y9.2.2.1 v5 v6).bind fun y27 =>
  (law42_pick n v6 61).bind fun y28 =>
  (iterF (fun go0 s => law42_MergeNumbers_2 n go0 v7 y8 y9.1 y9.2.1 y9.2.2.1 y9.2.2.2.1 y9.2.2.2.2.1 y15 y17.1 y17.2.2.1 y27 y28 s) n (0 : law42_MergeNumbers_s0)))))))
def law42_MergeNumbers (n : Nat) (v0 v1 v2 : Int) (v3 v4 : Lv) (v5 v6 v7 : Int) : Option law42_MergeNumbers_a := law42_MergeNumbers_1 n v0 v1 v2 v3 v4 v5 v6 v7
def law42_MergeNumbers_t : FnT := ⟨[(true, [.int, .int, .int]), (false, [(.sl (.cons .int (.cons .int (.cons .int .nil))))]), (false, [(.sl (.cons .int (.cons .int (.cons .int (.cons .int (.cons .int (.cons .int (.cons .int .nil))))))))]), (false, [.int]), (false, [.int]), (false, [.int])], .b, fun n (s : Int × Int × Int × Lv × Lv × Int × Int × Int) => law42_MergeNumbers n s.1 s.2.1 s.2.2.1 s.2.2.2.1 s.2.2.2.2.1 s.2.2.2.2.2.1 s.2.2.2.2.2.2.1 s.2.2.2.2.2.2.2⟩
theorem law42_MergeNumbers_ok : law42_MergeNumbers_t.ok Tryz.prog 7 := FnT.ok_of (cfg := ⟨[((7, 10, 10), .inv [(.tmp 77 .int)])], consE7, [], []⟩) (tab := law42_total_T) (mt := mt0) pfit law42_total_T_ok mt0_ok (fun s fn hf => by rw [Tryz.func7] at hf; cases hf; kernel_rfl) (fun n s => by kernel_rfl)
def law42_MergeNumbers_T : Tab := (7, law42_MergeNumbers_t) :: law42_total_T
theorem law42_MergeNumbers_T_ok : law42_MergeNumbers_T.ok Tryz.prog := Tab.ok_cons law42_MergeNumbers_ok law42_total_T_ok
end
end Go.Proofs.YtgckmifmjiklmaaGreat
