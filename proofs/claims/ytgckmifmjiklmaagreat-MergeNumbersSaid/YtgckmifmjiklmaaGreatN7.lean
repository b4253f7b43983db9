/-
  Plain functions for functions of the program, each with its contract (printed by decomp.py).
-/
import Derived.Test.YtgckmifmjiklmaaGreatSxP
import Derived.Test.YtgckmifmjiklmaaGreatSx25
import Derived.Test.YtgckmifmjiklmaaGreatR1
set_option linter.unusedSimpArgs false
set_option linter.unusedVariables false
set_option maxRecDepth 100000
namespace Go.Proofs.YtgckmifmjiklmaaGreat
open Go Go.Sx
noncomputable section
def consN7 : List Nat := [11, 12, 13, 14, 15, 16, 17, 18, 19, 20, 21, 22, 23, 24, 25, 26, 27, 28, 29, 30, 32, 33, 34, 35, 36, 37, 38, 40, 46, 47, 51, 52, 54, 55, 56, 57, 58, 59, 61, 62, 63, 64, 66, 67, 69, 80, 83, 87, 90, 91, 92, 95, 96, 115, 116, 121, 122, 127, 128, 164, 165, 166, 197, 198, 201, 204, 205, 216, 229, 1000012, 1000056, 1000083, 1000197, 1000216, 1000229]
/-! dialtone/dialtoneref13.Near -/
abbrev ref13_Near_a := Int
def ref13_Near_1 (n : Nat) (v0 : Lv) (v1 v2 : Int) : Option ref13_Near_a :=
  (bif (decide ((v0.length : Int) = 0)) then some v2
  else (ref13_pick n v1 4).bind fun y3 =>
  (bif (decide (y3 = 3)) then some v2
  else bif ((decide ((-9223372036854775808) ≤ (Int.tdiv v1 8))) && (decide ((Int.tdiv v1 8) ≤ 9223372036854775807))) then (ref13_pick n (Int.tdiv v1 8) (v0.length : Int)).bind fun y4 =>
  bif (decide (0 ≤ y4)) then bif (decide (y4 < (v0.length : Int))) then bif ((decide ((-9223372036854775808) ≤ (Int.tdiv v1 4))) && (decide ((Int.tdiv v1 4) ≤ 9223372036854775807))) then (ref13_pick n (Int.tdiv v1 4) 2).bind fun y5 =>
  (bif (decide (y5 = 0)) then bif ((decide ((-9223372036854775808) ≤ ((cI v0 y4 0) - 1))) && (decide (((cI v0 y4 0) - 1) ≤ 9223372036854775807))) then (ref13_pick n v2 3).bind fun y6 =>
  bif ((decide ((-9223372036854775808) ≤ (((cI v0 y4 0) - 1) + y6))) && (decide ((((cI v0 y4 0) - 1) + y6) ≤ 9223372036854775807))) then some (((cI v0 y4 0) - 1) + y6) else none else none
  else bif ((decide ((-9223372036854775808) ≤ ((cI v0 y4 1) - 1))) && (decide (((cI v0 y4 1) - 1) ≤ 9223372036854775807))) then (ref13_pick n v2 3).bind fun y6 =>
  bif ((decide ((-9223372036854775808) ≤ (((cI v0 y4 1) - 1) + y6))) && (decide ((((cI v0 y4 1) - 1) + y6) ≤ 9223372036854775807))) then some (((cI v0 y4 1) - 1) + y6) else none else none) else none else none else none else none))
def ref13_Near (n : Nat) (v0 : Lv) (v1 v2 : Int) : Option ref13_Near_a := ref13_Near_1 n v0 v1 v2
def ref13_Near_t : FnT := ⟨[(false, [(.sl (.cons .int (.cons .int (.cons .int .nil))))]), (false, [.int]), (false, [.int])], .i, fun n (s : Lv × Int × Int) => ref13_Near n s.1 s.2.1 s.2.2⟩
theorem ref13_Near_ok : ref13_Near_t.ok Tryz.prog 37 := FnT.ok_of (cfg := ⟨[], consN7, [], []⟩) (tab := ref42_Events_T) (mt := mt0) pfit ref42_Events_T_ok mt0_ok (fun s fn hf => by rw [Tryz.func37] at hf; cases hf; kernel_rfl) (fun n s => by kernel_rfl)
def ref13_Near_T : Tab := (37, ref13_Near_t) :: ref42_Events_T
theorem ref13_Near_T_ok : ref13_Near_T.ok Tryz.prog := Tab.ok_cons ref13_Near_ok ref42_Events_T_ok
/-! dialtone/dialtonelaw42.total -/
abbrev law42_total_a := Int
abbrev law42_total_s0 := Int × Int
def law42_total_2 (n : Nat) (go0 : law42_total_s0 → Option law42_total_a) (v0 : Lv) (v1 v2 : Int) : Option law42_total_a :=
  (bif (decide (v2 ≤ 7)) then (block_Count n v0 v2).bind fun y3 =>
  bif ((decide ((-9223372036854775808) ≤ (v1 + y3))) && (decide ((v1 + y3) ≤ 9223372036854775807))) then bif ((decide ((-9223372036854775808) ≤ (v2 + 1))) && (decide ((v2 + 1) ≤ 9223372036854775807))) then go0 ((v1 + y3), (v2 + 1)) else none else none
  else some v1)
def law42_total_1 (n : Nat) (v0 : Lv) : Option law42_total_a :=
  (iterF (fun go0 s => law42_total_2 n go0 v0 s.1 s.2) n ((0, 0) : law42_total_s0))
def law42_total (n : Nat) (v0 : Lv) : Option law42_total_a := law42_total_1 n v0
def law42_total_t : FnT := ⟨[(false, [(.sl (.cons .int (.cons .int (.cons .int .nil))))])], .i, fun n (s : Lv) => law42_total n s⟩
theorem law42_total_ok : law42_total_t.ok Tryz.prog 36 := FnT.ok_of (cfg := ⟨[((36, 3, 0), .inv [(.tmp 3 .int), (.tmp 4 .int)])], consN7, [], []⟩) (tab := ref13_Near_T) (mt := mt0) pfit ref13_Near_T_ok mt0_ok (fun s fn hf => by rw [Tryz.func36] at hf; cases hf; kernel_rfl) (fun n s => by kernel_rfl)
def law42_total_T : Tab := (36, law42_total_t) :: ref13_Near_T
theorem law42_total_T_ok : law42_total_T.ok Tryz.prog := Tab.ok_cons law42_total_ok ref13_Near_T_ok
end
end Go.Proofs.YtgckmifmjiklmaaGreat
