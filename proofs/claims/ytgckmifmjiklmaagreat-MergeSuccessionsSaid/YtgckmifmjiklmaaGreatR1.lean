/-
  Plain functions for functions of the program, each with its contract (printed by decomp.py).
-/
import Derived.Test.YtgckmifmjiklmaaGreatSxP
import Derived.Test.YtgckmifmjiklmaaGreatSx25
import Derived.Test.YtgckmifmjiklmaaGreatD13
set_option linter.unusedSimpArgs false
set_option linter.unusedVariables false
set_option maxRecDepth 100000
namespace Go.Proofs.YtgckmifmjiklmaaGreat
open Go Go.Sx
noncomputable section
def consR1 : List Nat := [11, 12, 13, 14, 15, 16, 17, 18, 19, 20, 21, 22, 23, 24, 25, 26, 27, 28, 29, 30, 31, 32, 33, 34, 35, 36, 37, 38, 40, 46, 47, 51, 52, 54, 55, 56, 57, 58, 59, 61, 62, 63, 64, 66, 67, 69, 80, 83, 87, 90, 91, 92, 95, 96, 115, 116, 121, 122, 127, 128, 164, 165, 166, 197, 198, 201, 204, 205, 216, 229, 1000012, 1000056, 1000197, 1000216, 1000229]
/-! dialtone/dialtoneref42.Copy -/
abbrev ref42_Copy_a := Int × Int × Lv × Lv × Lv
def ref42_Copy_1 (n : Nat) (v0 v1 : Int) (v2 v3 v4 : Lv) : Option ref42_Copy_a :=
  bif (decide (((v2.length : Int) * 24) ≤ 140737488355328)) then bif (decide (((v3.length : Int) * 8) ≤ 140737488355328)) then bif (decide (((v4.length : Int) * 8) ≤ 140737488355328)) then some (v0, v1, v2, v3, v4) else none else none else none
def ref42_Copy (n : Nat) (v0 v1 : Int) (v2 v3 v4 : Lv) : Option ref42_Copy_a := ref42_Copy_1 n v0 v1 v2 v3 v4
def ref42_Copy_t : FnT := ⟨[(true, [.int, .int, (.sl (.cons .int (.cons .int (.cons .int .nil)))), (.sl (.cons .int .nil)), (.sl (.cons .int .nil))])], (.agg (.cons .i (.cons .i (.cons (.row 116 (.cons .int (.cons .int (.cons .int .nil)))) (.cons (.row 3 (.cons .int .nil)) (.cons (.row 3 (.cons .int .nil)) .nil)))))), fun n (s : Int × Int × Lv × Lv × Lv) => ref42_Copy n s.1 s.2.1 s.2.2.1 s.2.2.2.1 s.2.2.2.2⟩
theorem ref42_Copy_ok : ref42_Copy_t.ok Tryz.prog 57 := FnT.ok_of (cfg := ⟨[], consR1, [], []⟩) (tab := law42_sane_T) (mt := mt0) pfit law42_sane_T_ok mt0_ok (fun s fn hf => by rw [Tryz.func57] at hf; cases hf; kernel_rfl) (fun n s => by kernel_rfl)
def ref42_Copy_T : Tab := (57, ref42_Copy_t) :: law42_sane_T
theorem ref42_Copy_T_ok : ref42_Copy_T.ok Tryz.prog := Tab.ok_cons ref42_Copy_ok law42_sane_T_ok
/-! dialtone/dialtoneref42.Valid -/
abbrev ref42_Valid_a := Bool
abbrev ref42_Valid_s0 := Int × Int × Int × Int
abbrev ref42_Valid_s1 := Int
def ref42_Valid_3 (n : Nat) (go0 : ref42_Valid_s0 → Option ref42_Valid_a) (v0 : Int) (v3 v4 : Lv) (v7 v8 v9 v10 : Int) : Option ref42_Valid_a :=
  (bif (decide (v10 < 8)) then bif (decide (0 ≤ v10)) then bif (decide (v10 < (v3.length : Int))) then (bif (decide ((-1000000000000) ≤ (cI v3 v10 0))) then (bif (!(decide ((cI v3 v10 0) ≤ 1000000000000))) then some false
  else bif (decide (v10 < (v4.length : Int))) then (bif (decide (0 ≤ (cI v4 v10 0))) then (bif (!(decide ((cI v4 v10 0) ≤ 9))) then some false
  else bif ((decide ((-9223372036854775808) ≤ (v7 + (cI v3 v10 0)))) && (decide ((v7 + (cI v3 v10 0)) ≤ 9223372036854775807))) then (bif (decide ((Int.tmod (IOp.f .shr v0 v10) 2) = 1)) then bif ((decide ((-9223372036854775808) ≤ (v10 + 1))) && (decide ((v10 + 1) ≤ 9223372036854775807))) then go0 ((v7 + (cI v3 v10 0)), (imin v8 (cI v4 v10 0)), (imax v9 (cI v4 v10 0)), (v10 + 1)) else none
  else (bif (!(decide ((cI v3 v10 0) = 0))) then some false
  else (bif (!(decide ((cI v4 v10 0) = 0))) then some false
  else bif ((decide ((-9223372036854775808) ≤ (v10 + 1))) && (decide ((v10 + 1) ≤ 9223372036854775807))) then go0 ((v7 + (cI v3 v10 0)), v8, v9, (v10 + 1)) else none))) else none)
  else some false) else none)
  else some false) else none else none
  else (bif (decide (v7 = 0)) then (bif (decide (v0 = 0)) then some true
  else bif ((decide ((-9223372036854775808) ≤ (v9 - v8))) && (decide ((v9 - v8) ≤ 9223372036854775807))) then some (decide ((v9 - v8) ≤ 1)) else none)
  else some false))
def ref42_Valid_2 (n : Nat) (go0 : ref42_Valid_s1 → Option ref42_Valid_a) (v0 : Int) (v2 v3 v4 : Lv) (v6 : Int) : Option ref42_Valid_a :=
  (bif (decide (v6 < (v2.length : Int))) then bif (decide (0 ≤ v6)) then bif (decide (0 ≤ (cI v2 v6 2))) then (bif (!(decide ((Int.tmod (IOp.f .shr v0 (cI v2 v6 2)) 2) = 1))) then some false
  else bif ((decide ((-9223372036854775808) ≤ (v6 + 1))) && (decide ((v6 + 1) ≤ 9223372036854775807))) then go0 (v6 + 1) else none) else none else none
  else (iterF (fun go0 s => ref42_Valid_3 n go0 v0 v3 v4 s.1 s.2.1 s.2.2.1 s.2.2.2) n ((0, 9, 0, 0) : ref42_Valid_s0)))
def ref42_Valid_1 (n : Nat) (v0 v1 : Int) (v2 v3 v4 : Lv) : Option ref42_Valid_a :=
  (bif (decide (0 ≤ v0)) then (bif (!(decide (v0 ≤ 255))) then some false
  else (bif (decide (0 ≤ v1)) then (bif (!(decide (v1 ≤ 255))) then some false
  else (bif (!(decide ((IOp.f .andNot v0 v1) = 0))) then some false
  else (ref13_Valid n v2).bind fun y5 =>
  (bif (!y5) then some false
  else (bif (!(decide ((v3.length : Int) = 8))) then some false
  else (bif (!(decide ((v4.length : Int) = 8))) then some false
  else (iterF (fun go0 s => ref42_Valid_2 n go0 v0 v2 v3 v4 s) n (0 : ref42_Valid_s1)))))))
  else some false))
  else some false)
def ref42_Valid (n : Nat) (v0 v1 : Int) (v2 v3 v4 : Lv) : Option ref42_Valid_a := ref42_Valid_1 n v0 v1 v2 v3 v4
def ref42_Valid_t : FnT := ⟨[(true, [.int, .int, (.sl (.cons .int (.cons .int (.cons .int .nil)))), (.sl (.cons .int .nil)), (.sl (.cons .int .nil))])], .b, fun n (s : Int × Int × Lv × Lv × Lv) => ref42_Valid n s.1 s.2.1 s.2.2.1 s.2.2.2.1 s.2.2.2.2⟩
theorem ref42_Valid_ok : ref42_Valid_t.ok Tryz.prog 19 := FnT.ok_of (cfg := ⟨[((19, 4, 1), .inv [(.tmp 3 .int)]), ((19, 12, 2), .inv [(.tmp 4 .int), (.tmp 5 .int), (.tmp 6 .int), (.tmp 7 .int)])], consR1, [], []⟩) (tab := ref42_Copy_T) (mt := mt0) pfit ref42_Copy_T_ok mt0_ok (fun s fn hf => by rw [Tryz.func19] at hf; cases hf; kernel_rfl) (fun n s => by kernel_rfl)
def ref42_Valid_T : Tab := (19, ref42_Valid_t) :: ref42_Copy_T
theorem ref42_Valid_T_ok : ref42_Valid_T.ok Tryz.prog := Tab.ok_cons ref42_Valid_ok ref42_Copy_T_ok
/-! dialtone/dialtoneref42.formed -/
abbrev ref42_formed_a := Bool
def ref42_formed_1 (n : Nat) (v0 v1 v2 v3 v4 v5 v6 v7 : Int) : Option ref42_formed_a :=
  (bif (decide (0 ≤ v1)) then (bif (!(decide (v1 ≤ 10000000))) then some false
  else (bif (decide (0 ≤ v2)) then (bif (!(decide (v2 ≤ 7))) then some false
  else (bif (decide (0 ≤ v3)) then (bif (!(decide (v3 ≤ 7))) then some false
  else (bif (decide (0 ≤ v4)) then (bif (!(decide (v4 ≤ 7))) then some false
  else (bif ((decide (v5 = 0)) && (decide (v6 = 0))) then (bif (decide (0 ≤ v5)) then (bif (decide (v5 < v6)) then (bif (decide (v6 ≤ 100000000)) then (bif (decide ((-1000000000000) ≤ v7)) then (bif (decide (v0 = 1)) then (bif (decide (v7 = 0)) then (bif (decide (v4 = 0)) then some (!(decide (v2 = v3)))
  else some false)
  else some false)
  else (bif (decide (v0 = 2)) then (bif (decide (v7 ≤ 1000000000000)) then (bif (decide (v4 = 0)) then some (!(decide (v2 = v3)))
  else some false)
  else some false)
  else (bif (decide (v0 = 3)) then (bif (decide (v7 ≤ 1000000000000)) then (bif (!(decide (v2 = v3))) then some (!(decide (v2 = v4)))
  else some false)
  else some false)
  else (bif (decide (v0 = 4)) then (bif (decide (v7 = 0)) then (bif (decide (v3 = 0)) then some (decide (v4 = 0))
  else some false)
  else some false)
  else some false))))
  else (bif (decide (v0 = 1)) then (bif (decide (v7 = 0)) then (bif (decide (v4 = 0)) then some (!(decide (v2 = v3)))
  else some false)
  else some false)
  else (bif (decide (v0 = 2)) then some false
  else (bif (decide (v0 = 3)) then some false
  else (bif (decide (v0 = 4)) then (bif (decide (v7 = 0)) then (bif (decide (v3 = 0)) then some (decide (v4 = 0))
  else some false)
  else some false)
  else some false)))))
  else (bif (decide (v0 = 1)) then (bif (decide (v7 = 0)) then (bif (decide (v4 = 0)) then some (!(decide (v2 = v3)))
  else some false)
  else some false)
  else (bif (decide (v0 = 2)) then some false
  else (bif (decide (v0 = 3)) then some false
  else (bif (decide (v0 = 4)) then (bif (decide (v7 = 0)) then (bif (decide (v3 = 0)) then some (decide (v4 = 0))
  else some false)
  else some false)
  else some false)))))
  else (bif (decide (v0 = 1)) then (bif (decide (v7 = 0)) then (bif (decide (v4 = 0)) then some (!(decide (v2 = v3)))
  else some false)
  else some false)
  else (bif (decide (v0 = 2)) then some false
  else (bif (decide (v0 = 3)) then some false
  else (bif (decide (v0 = 4)) then (bif (decide (v7 = 0)) then (bif (decide (v3 = 0)) then some (decide (v4 = 0))
  else some false)
  else some false)
  else some false)))))
  else (bif (decide (v0 = 1)) then (bif (decide (v7 = 0)) then (bif (decide (v4 = 0)) then some (!(decide (v2 = v3)))
  else some false)
  else some false)
  else (bif (decide (v0 = 2)) then some false
  else (bif (decide (v0 = 3)) then some false
  else (bif (decide (v0 = 4)) then (bif (decide (v7 = 0)) then (bif (decide (v3 = 0)) then some (decide (v4 = 0))
  else some false)
  else some false)
  else some false)))))
  else (bif (decide (0 ≤ v5)) then (bif (decide (v5 < v6)) then (bif (decide (v6 ≤ 100000000)) then (bif (decide ((-1000000000000) ≤ v7)) then (bif (decide (v0 = 1)) then some false
  else (bif (decide (v0 = 2)) then (bif (decide (v7 ≤ 1000000000000)) then (bif (decide (v4 = 0)) then some (!(decide (v2 = v3)))
  else some false)
  else some false)
  else (bif (decide (v0 = 3)) then (bif (decide (v7 ≤ 1000000000000)) then (bif (!(decide (v2 = v3))) then some (!(decide (v2 = v4)))
  else some false)
  else some false)
  else (bif (decide (v0 = 4)) then some false
  else some false))))
  else (bif (decide (v0 = 1)) then some false
  else (bif (decide (v0 = 2)) then some false
  else (bif (decide (v0 = 3)) then some false
  else (bif (decide (v0 = 4)) then some false
  else some false)))))
  else (bif (decide (v0 = 1)) then some false
  else (bif (decide (v0 = 2)) then some false
  else (bif (decide (v0 = 3)) then some false
  else (bif (decide (v0 = 4)) then some false
  else some false)))))
  else (bif (decide (v0 = 1)) then some false
  else (bif (decide (v0 = 2)) then some false
  else (bif (decide (v0 = 3)) then some false
  else (bif (decide (v0 = 4)) then some false
  else some false)))))
  else (bif (decide (v0 = 1)) then some false
  else (bif (decide (v0 = 2)) then some false
  else (bif (decide (v0 = 3)) then some false
  else (bif (decide (v0 = 4)) then some false
  else some false)))))))
  else some false))
  else some false))
  else some false))
  else some false)
def ref42_formed (n : Nat) (v0 v1 v2 v3 v4 v5 v6 v7 : Int) : Option ref42_formed_a := ref42_formed_1 n v0 v1 v2 v3 v4 v5 v6 v7
def ref42_formed_t : FnT := ⟨[(true, [.int, .int, .int, .int, .int, .int, .int, .int])], .b, fun n (s : Int × Int × Int × Int × Int × Int × Int × Int) => ref42_formed n s.1 s.2.1 s.2.2.1 s.2.2.2.1 s.2.2.2.2.1 s.2.2.2.2.2.1 s.2.2.2.2.2.2.1 s.2.2.2.2.2.2.2⟩
theorem ref42_formed_ok : ref42_formed_t.ok Tryz.prog 63 := FnT.ok_of (cfg := ⟨[], consR1, [], []⟩) (tab := ref42_Valid_T) (mt := mt0) pfit ref42_Valid_T_ok mt0_ok (fun s fn hf => by rw [Tryz.func63] at hf; cases hf; kernel_rfl) (fun n s => by kernel_rfl)
def ref42_formed_T : Tab := (63, ref42_formed_t) :: ref42_Valid_T
theorem ref42_formed_T_ok : ref42_formed_T.ok Tryz.prog := Tab.ok_cons ref42_formed_ok ref42_Valid_T_ok
/-! dialtone/dialtoneref42.outside -/
abbrev ref42_outside_a := Lv
abbrev ref42_outside_s0 := Lv × Int
def ref42_outside_6 (n : Nat) (go0 : ref42_outside_s0 → Option ref42_outside_a) (go1 : ref42_outside_s0 → Option ref42_outside_a) (v0 : Lv) (v2 v3 v4 v5 v7 : Int) (v8 : Lv) (v9 : Int) : Option ref42_outside_a :=
  (bif (decide (v9 = 1)) then (bif (decide (0 < (v8.length : Int))) then bif ((decide ((-9223372036854775808) ≤ ((v8.length : Int) - 1))) && (decide (((v8.length : Int) - 1) ≤ 9223372036854775807))) then bif (decide (0 ≤ (imax ((v8.length : Int) - 1) 0))) then bif (decide ((imax ((v8.length : Int) - 1) 0) < (v8.length : Int))) then (bif (decide ((cI v8 (imax ((v8.length : Int) - 1) 0) 1) = (cI ((((([] : Lv) ++ [[(AV.int (cI v0 v7 0))]]) ++ [[(AV.int (imax (cI v0 v7 0) (imin v4 (cI v0 v7 1))))]]) ++ [[(AV.int (imax (cI v0 v7 0) (imin v5 (cI v0 v7 1))))]]) ++ [[(AV.int (cI v0 v7 1))]]) v9 0))) then (bif (decide ((cI v8 (imax ((v8.length : Int) - 1) 0) 2) = v2)) then bif (decide (0 ≤ ((v8.length : Int) - 1))) then bif (decide (((v8.length : Int) - 1) < (v8.length : Int))) then go1 ((List.modify v8 (((v8.length : Int) - 1)).toNat (fun r => r.set 1 (AV.int (cI ((((([] : Lv) ++ [[(AV.int (cI v0 v7 0))]]) ++ [[(AV.int (imax (cI v0 v7 0) (imin v4 (cI v0 v7 1))))]]) ++ [[(AV.int (imax (cI v0 v7 0) (imin v5 (cI v0 v7 1))))]]) ++ [[(AV.int (cI v0 v7 1))]]) (v9 + 1) 0)))), (v9 + 1)) else none else none
  else bif (decide ((((v8.length : Int) + 1) * 24) ≤ 140737488355328)) then go1 ((v8 ++ [[(AV.int (cI ((((([] : Lv) ++ [[(AV.int (cI v0 v7 0))]]) ++ [[(AV.int (imax (cI v0 v7 0) (imin v4 (cI v0 v7 1))))]]) ++ [[(AV.int (imax (cI v0 v7 0) (imin v5 (cI v0 v7 1))))]]) ++ [[(AV.int (cI v0 v7 1))]]) v9 0)), (AV.int (cI ((((([] : Lv) ++ [[(AV.int (cI v0 v7 0))]]) ++ [[(AV.int (imax (cI v0 v7 0) (imin v4 (cI v0 v7 1))))]]) ++ [[(AV.int (imax (cI v0 v7 0) (imin v5 (cI v0 v7 1))))]]) ++ [[(AV.int (cI v0 v7 1))]]) (v9 + 1) 0)), (AV.int v2)]]), (v9 + 1)) else none)
  else bif (decide ((((v8.length : Int) + 1) * 24) ≤ 140737488355328)) then go1 ((v8 ++ [[(AV.int (cI ((((([] : Lv) ++ [[(AV.int (cI v0 v7 0))]]) ++ [[(AV.int (imax (cI v0 v7 0) (imin v4 (cI v0 v7 1))))]]) ++ [[(AV.int (imax (cI v0 v7 0) (imin v5 (cI v0 v7 1))))]]) ++ [[(AV.int (cI v0 v7 1))]]) v9 0)), (AV.int (cI ((((([] : Lv) ++ [[(AV.int (cI v0 v7 0))]]) ++ [[(AV.int (imax (cI v0 v7 0) (imin v4 (cI v0 v7 1))))]]) ++ [[(AV.int (imax (cI v0 v7 0) (imin v5 (cI v0 v7 1))))]]) ++ [[(AV.int (cI v0 v7 1))]]) (v9 + 1) 0)), (AV.int v2)]]), (v9 + 1)) else none) else none else none else none
  else bif (decide ((((v8.length : Int) + 1) * 24) ≤ 140737488355328)) then go1 ((v8 ++ [[(AV.int (cI ((((([] : Lv) ++ [[(AV.int (cI v0 v7 0))]]) ++ [[(AV.int (imax (cI v0 v7 0) (imin v4 (cI v0 v7 1))))]]) ++ [[(AV.int (imax (cI v0 v7 0) (imin v5 (cI v0 v7 1))))]]) ++ [[(AV.int (cI v0 v7 1))]]) v9 0)), (AV.int (cI ((((([] : Lv) ++ [[(AV.int (cI v0 v7 0))]]) ++ [[(AV.int (imax (cI v0 v7 0) (imin v4 (cI v0 v7 1))))]]) ++ [[(AV.int (imax (cI v0 v7 0) (imin v5 (cI v0 v7 1))))]]) ++ [[(AV.int (cI v0 v7 1))]]) (v9 + 1) 0)), (AV.int v2)]]), (v9 + 1)) else none)
  else (bif (decide (0 < (v8.length : Int))) then bif ((decide ((-9223372036854775808) ≤ ((v8.length : Int) - 1))) && (decide (((v8.length : Int) - 1) ≤ 9223372036854775807))) then bif (decide (0 ≤ (imax ((v8.length : Int) - 1) 0))) then bif (decide ((imax ((v8.length : Int) - 1) 0) < (v8.length : Int))) then (bif (decide ((cI v8 (imax ((v8.length : Int) - 1) 0) 1) = (cI ((((([] : Lv) ++ [[(AV.int (cI v0 v7 0))]]) ++ [[(AV.int (imax (cI v0 v7 0) (imin v4 (cI v0 v7 1))))]]) ++ [[(AV.int (imax (cI v0 v7 0) (imin v5 (cI v0 v7 1))))]]) ++ [[(AV.int (cI v0 v7 1))]]) v9 0))) then (bif (decide ((cI v8 (imax ((v8.length : Int) - 1) 0) 2) = v3)) then bif (decide (0 ≤ ((v8.length : Int) - 1))) then bif (decide (((v8.length : Int) - 1) < (v8.length : Int))) then go1 ((List.modify v8 (((v8.length : Int) - 1)).toNat (fun r => r.set 1 (AV.int (cI ((((([] : Lv) ++ [[(AV.int (cI v0 v7 0))]]) ++ [[(AV.int (imax (cI v0 v7 0) (imin v4 (cI v0 v7 1))))]]) ++ [[(AV.int (imax (cI v0 v7 0) (imin v5 (cI v0 v7 1))))]]) ++ [[(AV.int (cI v0 v7 1))]]) (v9 + 1) 0)))), (v9 + 1)) else none else none
  else bif (decide ((((v8.length : Int) + 1) * 24) ≤ 140737488355328)) then go1 ((v8 ++ [[(AV.int (cI ((((([] : Lv) ++ [[(AV.int (cI v0 v7 0))]]) ++ [[(AV.int (imax (cI v0 v7 0) (imin v4 (cI v0 v7 1))))]]) ++ [[(AV.int (imax (cI v0 v7 0) (imin v5 (cI v0 v7 1))))]]) ++ [[(AV.int (cI v0 v7 1))]]) v9 0)), (AV.int (cI ((((([] : Lv) ++ [[(AV.int (cI v0 v7 0))]]) ++ [[(AV.int (imax (cI v0 v7 0) (imin v4 (cI v0 v7 1))))]]) ++ [[(AV.int (imax (cI v0 v7 0) (imin v5 (cI v0 v7 1))))]]) ++ [[(AV.int (cI v0 v7 1))]]) (v9 + 1) 0)), (AV.int v3)]]), (v9 + 1)) else none)
  else bif (decide ((((v8.length : Int) + 1) * 24) ≤ 140737488355328)) then go1 ((v8 ++ [[(AV.int (cI ((((([] : Lv) ++ [[(AV.int (cI v0 v7 0))]]) ++ [[(AV.int (imax (cI v0 v7 0) (imin v4 (cI v0 v7 1))))]]) ++ [[(AV.int (imax (cI v0 v7 0) (imin v5 (cI v0 v7 1))))]]) ++ [[(AV.int (cI v0 v7 1))]]) v9 0)), (AV.int (cI ((((([] : Lv) ++ [[(AV.int (cI v0 v7 0))]]) ++ [[(AV.int (imax (cI v0 v7 0) (imin v4 (cI v0 v7 1))))]]) ++ [[(AV.int (imax (cI v0 v7 0) (imin v5 (cI v0 v7 1))))]]) ++ [[(AV.int (cI v0 v7 1))]]) (v9 + 1) 0)), (AV.int v3)]]), (v9 + 1)) else none) else none else none else none
  else bif (decide ((((v8.length : Int) + 1) * 24) ≤ 140737488355328)) then go1 ((v8 ++ [[(AV.int (cI ((((([] : Lv) ++ [[(AV.int (cI v0 v7 0))]]) ++ [[(AV.int (imax (cI v0 v7 0) (imin v4 (cI v0 v7 1))))]]) ++ [[(AV.int (imax (cI v0 v7 0) (imin v5 (cI v0 v7 1))))]]) ++ [[(AV.int (cI v0 v7 1))]]) v9 0)), (AV.int (cI ((((([] : Lv) ++ [[(AV.int (cI v0 v7 0))]]) ++ [[(AV.int (imax (cI v0 v7 0) (imin v4 (cI v0 v7 1))))]]) ++ [[(AV.int (imax (cI v0 v7 0) (imin v5 (cI v0 v7 1))))]]) ++ [[(AV.int (cI v0 v7 1))]]) (v9 + 1) 0)), (AV.int v3)]]), (v9 + 1)) else none))
def ref42_outside_5 (n : Nat) (go0 : ref42_outside_s0 → Option ref42_outside_a) (go1 : ref42_outside_s0 → Option ref42_outside_a) (v0 : Lv) (v1 v2 v3 v4 v5 v7 : Int) (v8 : Lv) (v9 : Int) : Option ref42_outside_a :=
  (bif (decide ((cI v0 v7 2) = v1)) then ref42_outside_6 n go0 go1 v0 v2 v3 v4 v5 v7 v8 v9
  else (bif (decide (0 < (v8.length : Int))) then bif ((decide ((-9223372036854775808) ≤ ((v8.length : Int) - 1))) && (decide (((v8.length : Int) - 1) ≤ 9223372036854775807))) then bif (decide (0 ≤ (imax ((v8.length : Int) - 1) 0))) then bif (decide ((imax ((v8.length : Int) - 1) 0) < (v8.length : Int))) then (bif (decide ((cI v8 (imax ((v8.length : Int) - 1) 0) 1) = (cI ((((([] : Lv) ++ [[(AV.int (cI v0 v7 0))]]) ++ [[(AV.int (imax (cI v0 v7 0) (imin v4 (cI v0 v7 1))))]]) ++ [[(AV.int (imax (cI v0 v7 0) (imin v5 (cI v0 v7 1))))]]) ++ [[(AV.int (cI v0 v7 1))]]) v9 0))) then (bif (decide ((cI v8 (imax ((v8.length : Int) - 1) 0) 2) = (cI v0 v7 2))) then bif (decide (0 ≤ ((v8.length : Int) - 1))) then bif (decide (((v8.length : Int) - 1) < (v8.length : Int))) then go1 ((List.modify v8 (((v8.length : Int) - 1)).toNat (fun r => r.set 1 (AV.int (cI ((((([] : Lv) ++ [[(AV.int (cI v0 v7 0))]]) ++ [[(AV.int (imax (cI v0 v7 0) (imin v4 (cI v0 v7 1))))]]) ++ [[(AV.int (imax (cI v0 v7 0) (imin v5 (cI v0 v7 1))))]]) ++ [[(AV.int (cI v0 v7 1))]]) (v9 + 1) 0)))), (v9 + 1)) else none else none
  else bif (decide ((((v8.length : Int) + 1) * 24) ≤ 140737488355328)) then go1 ((v8 ++ [[(AV.int (cI ((((([] : Lv) ++ [[(AV.int (cI v0 v7 0))]]) ++ [[(AV.int (imax (cI v0 v7 0) (imin v4 (cI v0 v7 1))))]]) ++ [[(AV.int (imax (cI v0 v7 0) (imin v5 (cI v0 v7 1))))]]) ++ [[(AV.int (cI v0 v7 1))]]) v9 0)), (AV.int (cI ((((([] : Lv) ++ [[(AV.int (cI v0 v7 0))]]) ++ [[(AV.int (imax (cI v0 v7 0) (imin v4 (cI v0 v7 1))))]]) ++ [[(AV.int (imax (cI v0 v7 0) (imin v5 (cI v0 v7 1))))]]) ++ [[(AV.int (cI v0 v7 1))]]) (v9 + 1) 0)), (AV.int (cI v0 v7 2))]]), (v9 + 1)) else none)
  else bif (decide ((((v8.length : Int) + 1) * 24) ≤ 140737488355328)) then go1 ((v8 ++ [[(AV.int (cI ((((([] : Lv) ++ [[(AV.int (cI v0 v7 0))]]) ++ [[(AV.int (imax (cI v0 v7 0) (imin v4 (cI v0 v7 1))))]]) ++ [[(AV.int (imax (cI v0 v7 0) (imin v5 (cI v0 v7 1))))]]) ++ [[(AV.int (cI v0 v7 1))]]) v9 0)), (AV.int (cI ((((([] : Lv) ++ [[(AV.int (cI v0 v7 0))]]) ++ [[(AV.int (imax (cI v0 v7 0) (imin v4 (cI v0 v7 1))))]]) ++ [[(AV.int (imax (cI v0 v7 0) (imin v5 (cI v0 v7 1))))]]) ++ [[(AV.int (cI v0 v7 1))]]) (v9 + 1) 0)), (AV.int (cI v0 v7 2))]]), (v9 + 1)) else none) else none else none else none
  else bif (decide ((((v8.length : Int) + 1) * 24) ≤ 140737488355328)) then go1 ((v8 ++ [[(AV.int (cI ((((([] : Lv) ++ [[(AV.int (cI v0 v7 0))]]) ++ [[(AV.int (imax (cI v0 v7 0) (imin v4 (cI v0 v7 1))))]]) ++ [[(AV.int (imax (cI v0 v7 0) (imin v5 (cI v0 v7 1))))]]) ++ [[(AV.int (cI v0 v7 1))]]) v9 0)), (AV.int (cI ((((([] : Lv) ++ [[(AV.int (cI v0 v7 0))]]) ++ [[(AV.int (imax (cI v0 v7 0) (imin v4 (cI v0 v7 1))))]]) ++ [[(AV.int (imax (cI v0 v7 0) (imin v5 (cI v0 v7 1))))]]) ++ [[(AV.int (cI v0 v7 1))]]) (v9 + 1) 0)), (AV.int (cI v0 v7 2))]]), (v9 + 1)) else none))
def ref42_outside_4 (n : Nat) (go0 : ref42_outside_s0 → Option ref42_outside_a) (go1 : ref42_outside_s0 → Option ref42_outside_a) (v0 : Lv) (v1 v2 v3 v4 v5 v7 : Int) (v8 : Lv) (v9 : Int) : Option ref42_outside_a :=
  (bif (decide ((cI ((((([] : Lv) ++ [[(AV.int (cI v0 v7 0))]]) ++ [[(AV.int (imax (cI v0 v7 0) (imin v4 (cI v0 v7 1))))]]) ++ [[(AV.int (imax (cI v0 v7 0) (imin v5 (cI v0 v7 1))))]]) ++ [[(AV.int (cI v0 v7 1))]]) v9 0) = (cI ((((([] : Lv) ++ [[(AV.int (cI v0 v7 0))]]) ++ [[(AV.int (imax (cI v0 v7 0) (imin v4 (cI v0 v7 1))))]]) ++ [[(AV.int (imax (cI v0 v7 0) (imin v5 (cI v0 v7 1))))]]) ++ [[(AV.int (cI v0 v7 1))]]) (v9 + 1) 0))) then go1 (v8, (v9 + 1))
  else ref42_outside_5 n go0 go1 v0 v1 v2 v3 v4 v5 v7 v8 v9)
def ref42_outside_3 (n : Nat) (go0 : ref42_outside_s0 → Option ref42_outside_a) (go1 : ref42_outside_s0 → Option ref42_outside_a) (v0 : Lv) (v1 v2 v3 v4 v5 v7 : Int) (v8 : Lv) (v9 : Int) : Option ref42_outside_a :=
  (bif (decide (v9 < 3)) then bif (decide (0 ≤ v9)) then bif (decide (v9 < 4)) then bif ((decide ((-9223372036854775808) ≤ (v9 + 1))) && (decide ((v9 + 1) ≤ 9223372036854775807))) then bif (decide (0 ≤ (v9 + 1))) then bif (decide ((v9 + 1) < 4)) then ref42_outside_4 n go0 go1 v0 v1 v2 v3 v4 v5 v7 v8 v9 else none else none else none else none else none
  else bif ((decide ((-9223372036854775808) ≤ (v7 + 1))) && (decide ((v7 + 1) ≤ 9223372036854775807))) then go0 (v8, (v7 + 1)) else none)
def ref42_outside_2 (n : Nat) (go0 : ref42_outside_s0 → Option ref42_outside_a) (v0 : Lv) (v1 v2 v3 v4 v5 : Int) (v6 : Lv) (v7 : Int) : Option ref42_outside_a :=
  (bif (decide (v7 < (v0.length : Int))) then bif (decide (0 ≤ v7)) then (iterF (fun go1 s => ref42_outside_3 n go0 go1 v0 v1 v2 v3 v4 v5 v7 s.1 s.2) n ((v6, 0) : ref42_outside_s0)) else none
  else some v6)
def ref42_outside_1 (n : Nat) (v0 : Lv) (v1 v2 v3 v4 v5 : Int) : Option ref42_outside_a :=
  (iterF (fun go0 s => ref42_outside_2 n go0 v0 v1 v2 v3 v4 v5 s.1 s.2) n ((([] : Lv), 0) : ref42_outside_s0))
def ref42_outside (n : Nat) (v0 : Lv) (v1 v2 v3 v4 v5 : Int) : Option ref42_outside_a := ref42_outside_1 n v0 v1 v2 v3 v4 v5
def ref42_outside_t : FnT := ⟨[(false, [(.sl (.cons .int (.cons .int (.cons .int .nil))))]), (false, [.int]), (false, [.int]), (false, [.int]), (true, [.int, .int])], (.row 116 (.cons .int (.cons .int (.cons .int .nil)))), fun n (s : Lv × Int × Int × Int × Int × Int) => ref42_outside n s.1 s.2.1 s.2.2.1 s.2.2.2.1 s.2.2.2.2.1 s.2.2.2.2.2⟩
theorem ref42_outside_ok : ref42_outside_t.ok Tryz.prog 66 := FnT.ok_of (cfg := ⟨[((66, 3, 1), .inv [(.tmprow 11 116 (.cons .int (.cons .int (.cons .int .nil)))), (.tmp 12 .int)]), ((66, 7, 4), .inv [(.tmprow 11 116 (.cons .int (.cons .int (.cons .int .nil)))), (.tmp 14 .int)])], consR1, [], []⟩) (tab := ref42_formed_T) (mt := mt0) pfit ref42_formed_T_ok mt0_ok (fun s fn hf => by rw [Tryz.func66] at hf; cases hf; kernel_rfl) (fun n s => by kernel_rfl)
def ref42_outside_T : Tab := (66, ref42_outside_t) :: ref42_formed_T
theorem ref42_outside_T_ok : ref42_outside_T.ok Tryz.prog := Tab.ok_cons ref42_outside_ok ref42_formed_T_ok
/-! dialtone/dialtoneref42.hand -/
abbrev ref42_hand_a := Lv × Bool
def ref42_hand_1 (n : Nat) (v0 : Lv) (v1 v2 v3 v4 : Int) : Option ref42_hand_a :=
  (ref13_Only n v0 v3 v4).bind fun y5 =>
  (ref13_Swap n y5.1 v1 v2).bind fun y7 =>
  (ref13_Overlay n v0 y7.1).bind fun y9 =>
  (bif (decide (y5.2 = 0)) then (bif (decide (y7.2 = 0)) then some (y9.1, (decide (y9.2 = 0)))
  else some (y9.1, false))
  else some (y9.1, false))
def ref42_hand (n : Nat) (v0 : Lv) (v1 v2 v3 v4 : Int) : Option ref42_hand_a := ref42_hand_1 n v0 v1 v2 v3 v4
def ref42_hand_t : FnT := ⟨[(false, [(.sl (.cons .int (.cons .int (.cons .int .nil))))]), (false, [.int]), (false, [.int]), (true, [.int, .int])], (.tup (.cons (.row 116 (.cons .int (.cons .int (.cons .int .nil)))) (.cons .b .nil))), fun n (s : Lv × Int × Int × Int × Int) => ref42_hand n s.1 s.2.1 s.2.2.1 s.2.2.2.1 s.2.2.2.2⟩
theorem ref42_hand_ok : ref42_hand_t.ok Tryz.prog 64 := FnT.ok_of (cfg := ⟨[], consR1, [], []⟩) (tab := ref42_outside_T) (mt := mt0) pfit ref42_outside_T_ok mt0_ok (fun s fn hf => by rw [Tryz.func64] at hf; cases hf; kernel_rfl) (fun n s => by kernel_rfl)
def ref42_hand_T : Tab := (64, ref42_hand_t) :: ref42_outside_T
theorem ref42_hand_T_ok : ref42_hand_T.ok Tryz.prog := Tab.ok_cons ref42_hand_ok ref42_outside_T_ok
/-! dialtone/dialtoneref42.Step -/
abbrev ref42_Step_a := Int × Int × Lv × Lv × Lv × Int
abbrev ref42_Step_s0 := Bool × Int
def ref42_Step_8 (n : Nat) (go0 : ref42_Step_s0 → Option ref42_Step_a) (v0 : Int) (v4 : Lv) (v7 v15 v16 : Int) (v17 v18 v19 : Lv) (v20 : Bool) (v21 : Int) : Option ref42_Step_a :=
  (bif (decide (v21 < 8)) then (bif v20 then bif (decide (0 ≤ v21)) then (bif (!(decide ((Int.tmod (IOp.f .shr v0 v21) 2) = 1))) then bif ((decide ((-9223372036854775808) ≤ (v21 + 1))) && (decide ((v21 + 1) ≤ 9223372036854775807))) then go0 (true, (v21 + 1)) else none
  else bif (decide (v21 < (v4.length : Int))) then bif (decide (v7 < (v4.length : Int))) then bif ((decide ((-9223372036854775808) ≤ (v21 + 1))) && (decide ((v21 + 1) ≤ 9223372036854775807))) then go0 ((decide ((cI v4 v7 0) ≤ (cI v4 v21 0))), (v21 + 1)) else none else none else none) else none
  else bif ((decide ((-9223372036854775808) ≤ (v21 + 1))) && (decide ((v21 + 1) ≤ 9223372036854775807))) then go0 (false, (v21 + 1)) else none)
  else bif (decide (v7 < (v19.length : Int))) then bif ((decide ((-9223372036854775808) ≤ ((cI v19 v7 0) + 1))) && (decide (((cI v19 v7 0) + 1) ≤ 9223372036854775807))) then (bif (!v20) then some (0, 0, ([] : Lv), ([] : Lv), ([] : Lv), 420)
  else (ref42_Valid n v15 v16 v17 v18 (List.modify v19 (v7).toNat (fun r => r.set 0 (AV.int ((cI v19 v7 0) + 1))))).bind fun y22 =>
  (bif (!y22) then some (0, 0, ([] : Lv), ([] : Lv), ([] : Lv), 420)
  else some (v15, v16, v17, v18, (List.modify v19 (v7).toNat (fun r => r.set 0 (AV.int ((cI v19 v7 0) + 1)))), 0))) else none else none)
def ref42_Step_7 (n : Nat) (v0 : Int) (v2 v3 v4 : Lv) (v5 v7 v8 v9 v10 v11 v12 v15 v16 : Int) (v17 v18 v19 : Lv) : Option ref42_Step_a :=
  (bif (decide (v5 = 3)) then bif (decide (0 ≤ v8)) then (bif (decide ((Int.tmod (IOp.f .shr v0 v8) 2) = 1)) then bif (decide (0 ≤ v9)) then (ref42_outside n v2 v7 v8 v9 v10 v11).bind fun y20 =>
  (ref13_Valid n y20).bind fun y21 =>
  bif (decide (v8 < (v18.length : Int))) then bif ((decide ((-9223372036854775808) ≤ ((cI v18 v8 0) + v12))) && (decide (((cI v18 v8 0) + v12) ≤ 9223372036854775807))) then bif (decide (v9 < (v18.length : Int))) then bif (decide (v7 < (v3.length : Int))) then bif ((decide ((-9223372036854775808) ≤ ((cI (List.modify v18 (v8).toNat (fun r => r.set 0 (AV.int ((cI v18 v8 0) + v12)))) v9 0) + (cI v3 v7 0)))) && (decide (((cI (List.modify v18 (v8).toNat (fun r => r.set 0 (AV.int ((cI v18 v8 0) + v12)))) v9 0) + (cI v3 v7 0)) ≤ 9223372036854775807))) then bif ((decide ((-9223372036854775808) ≤ (((cI (List.modify v18 (v8).toNat (fun r => r.set 0 (AV.int ((cI v18 v8 0) + v12)))) v9 0) + (cI v3 v7 0)) - v12))) && (decide ((((cI (List.modify v18 (v8).toNat (fun r => r.set 0 (AV.int ((cI v18 v8 0) + v12)))) v9 0) + (cI v3 v7 0)) - v12) ≤ 9223372036854775807))) then bif (decide (v7 < (v18.length : Int))) then bif (decide (v7 < (v19.length : Int))) then (bif (!(decide ((Int.tmod (IOp.f .shr v0 v9) 2) = 1))) then some (0, 0, ([] : Lv), ([] : Lv), ([] : Lv), 420)
  else (bif (!y21) then some (0, 0, ([] : Lv), ([] : Lv), ([] : Lv), 420)
  else (ref42_Valid n (IOp.f .andNot v0 (IOp.f .shl 1 v7)) v16 y20 (List.modify (List.modify (List.modify v18 (v8).toNat (fun r => r.set 0 (AV.int ((cI v18 v8 0) + v12)))) (v9).toNat (fun r => r.set 0 (AV.int (((cI (List.modify v18 (v8).toNat (fun r => r.set 0 (AV.int ((cI v18 v8 0) + v12)))) v9 0) + (cI v3 v7 0)) - v12)))) (v7).toNat (fun r => r.set 0 (AV.int 0))) (List.modify v19 (v7).toNat (fun r => r.set 0 (AV.int 0)))).bind fun y22 =>
  (bif (!y22) then some (0, 0, ([] : Lv), ([] : Lv), ([] : Lv), 420)
  else some ((IOp.f .andNot v0 (IOp.f .shl 1 v7)), v16, y20, (List.modify (List.modify (List.modify v18 (v8).toNat (fun r => r.set 0 (AV.int ((cI v18 v8 0) + v12)))) (v9).toNat (fun r => r.set 0 (AV.int (((cI (List.modify v18 (v8).toNat (fun r => r.set 0 (AV.int ((cI v18 v8 0) + v12)))) v9 0) + (cI v3 v7 0)) - v12)))) (v7).toNat (fun r => r.set 0 (AV.int 0))), (List.modify v19 (v7).toNat (fun r => r.set 0 (AV.int 0))), 0)))) else none else none else none else none else none else none else none else none else none
  else (ref42_outside n v2 v7 v8 v9 v10 v11).bind fun y20 =>
  (ref13_Valid n y20).bind fun y21 =>
  bif (decide (v8 < (v18.length : Int))) then bif ((decide ((-9223372036854775808) ≤ ((cI v18 v8 0) + v12))) && (decide (((cI v18 v8 0) + v12) ≤ 9223372036854775807))) then bif (decide (0 ≤ v9)) then bif (decide (v9 < (v18.length : Int))) then bif (decide (v7 < (v3.length : Int))) then bif ((decide ((-9223372036854775808) ≤ ((cI (List.modify v18 (v8).toNat (fun r => r.set 0 (AV.int ((cI v18 v8 0) + v12)))) v9 0) + (cI v3 v7 0)))) && (decide (((cI (List.modify v18 (v8).toNat (fun r => r.set 0 (AV.int ((cI v18 v8 0) + v12)))) v9 0) + (cI v3 v7 0)) ≤ 9223372036854775807))) then bif ((decide ((-9223372036854775808) ≤ (((cI (List.modify v18 (v8).toNat (fun r => r.set 0 (AV.int ((cI v18 v8 0) + v12)))) v9 0) + (cI v3 v7 0)) - v12))) && (decide ((((cI (List.modify v18 (v8).toNat (fun r => r.set 0 (AV.int ((cI v18 v8 0) + v12)))) v9 0) + (cI v3 v7 0)) - v12) ≤ 9223372036854775807))) then bif (decide (v7 < (v18.length : Int))) then bif (decide (v7 < (v19.length : Int))) then some (0, 0, ([] : Lv), ([] : Lv), ([] : Lv), 420) else none else none else none else none else none else none else none else none else none) else none
  else (iterF (fun go0 s => ref42_Step_8 n go0 v0 v4 v7 v15 v16 v17 v18 v19 s.1 s.2) n ((true, 0) : ref42_Step_s0)))
def ref42_Step_6 (n : Nat) (v0 v1 : Int) (v2 v3 v4 : Lv) (v5 v7 v8 v9 v10 v11 v12 v15 v16 : Int) (v17 v18 v19 : Lv) : Option ref42_Step_a :=
  (bif (decide (v5 = 2)) then bif (decide (0 ≤ v8)) then (ref42_hand n v2 v7 v8 v10 v11).bind fun y20 =>
  bif (decide (v8 < (v18.length : Int))) then bif (decide (v7 < (v3.length : Int))) then bif ((decide ((-9223372036854775808) ≤ ((cI v3 v7 0) - v12))) && (decide (((cI v3 v7 0) - v12) ≤ 9223372036854775807))) then bif (decide (v7 < (v18.length : Int))) then bif (decide (v7 < (v4.length : Int))) then bif (decide (v8 < (v19.length : Int))) then (bif ((decide ((Int.tmod (IOp.f .shr v1 v8) 2) = 1)) == true) then some (0, 0, ([] : Lv), ([] : Lv), ([] : Lv), 420)
  else (bif (!y20.2) then some (0, 0, ([] : Lv), ([] : Lv), ([] : Lv), 420)
  else (ref42_Valid n (IOp.f .or v0 (IOp.f .shl 1 v8)) (IOp.f .or v1 (IOp.f .shl 1 v8)) y20.1 (List.modify (List.modify v18 (v8).toNat (fun r => r.set 0 (AV.int v12))) (v7).toNat (fun r => r.set 0 (AV.int ((cI v3 v7 0) - v12)))) (List.modify v19 (v8).toNat (fun r => r.set 0 (AV.int (cI v4 v7 0))))).bind fun y22 =>
  (bif (!y22) then some (0, 0, ([] : Lv), ([] : Lv), ([] : Lv), 420)
  else some ((IOp.f .or v0 (IOp.f .shl 1 v8)), (IOp.f .or v1 (IOp.f .shl 1 v8)), y20.1, (List.modify (List.modify v18 (v8).toNat (fun r => r.set 0 (AV.int v12))) (v7).toNat (fun r => r.set 0 (AV.int ((cI v3 v7 0) - v12)))), (List.modify v19 (v8).toNat (fun r => r.set 0 (AV.int (cI v4 v7 0)))), 0)))) else none else none else none else none else none else none else none
  else ref42_Step_7 n v0 v2 v3 v4 v5 v7 v8 v9 v10 v11 v12 v15 v16 v17 v18 v19)
def ref42_Step_5 (n : Nat) (v0 v1 : Int) (v2 v3 v4 : Lv) (v5 v7 v8 v9 v10 v11 v12 v15 v16 : Int) (v17 v18 v19 : Lv) : Option ref42_Step_a :=
  (bif (decide (v5 = 1)) then bif (decide (0 ≤ v8)) then (ref42_hand n v2 v7 v8 0 100000000).bind fun y20 =>
  bif (decide (v8 < (v18.length : Int))) then bif (decide (v7 < (v3.length : Int))) then bif ((decide ((-9223372036854775808) ≤ ((cI v18 v8 0) + (cI v3 v7 0)))) && (decide (((cI v18 v8 0) + (cI v3 v7 0)) ≤ 9223372036854775807))) then bif (decide (v7 < (v18.length : Int))) then bif (decide (v7 < (v19.length : Int))) then (bif (!(decide ((Int.tmod (IOp.f .shr v0 v8) 2) = 1))) then some (0, 0, ([] : Lv), ([] : Lv), ([] : Lv), 420)
  else (bif (!y20.2) then some (0, 0, ([] : Lv), ([] : Lv), ([] : Lv), 420)
  else (ref42_Valid n (IOp.f .andNot v0 (IOp.f .shl 1 v7)) v16 y20.1 (List.modify (List.modify v18 (v8).toNat (fun r => r.set 0 (AV.int ((cI v18 v8 0) + (cI v3 v7 0))))) (v7).toNat (fun r => r.set 0 (AV.int 0))) (List.modify v19 (v7).toNat (fun r => r.set 0 (AV.int 0)))).bind fun y22 =>
  (bif (!y22) then some (0, 0, ([] : Lv), ([] : Lv), ([] : Lv), 420)
  else some ((IOp.f .andNot v0 (IOp.f .shl 1 v7)), v16, y20.1, (List.modify (List.modify v18 (v8).toNat (fun r => r.set 0 (AV.int ((cI v18 v8 0) + (cI v3 v7 0))))) (v7).toNat (fun r => r.set 0 (AV.int 0))), (List.modify v19 (v7).toNat (fun r => r.set 0 (AV.int 0))), 0)))) else none else none else none else none else none else none
  else ref42_Step_6 n v0 v1 v2 v3 v4 v5 v7 v8 v9 v10 v11 v12 v15 v16 v17 v18 v19)
def ref42_Step_4 (n : Nat) (v0 v1 : Int) (v2 v3 v4 : Lv) (v5 v7 v8 v9 v10 v11 v12 : Int) : Option ref42_Step_a :=
  (bif (!(decide ((Int.tmod (IOp.f .shr v0 v7) 2) = 1))) then some (0, 0, ([] : Lv), ([] : Lv), ([] : Lv), 420)
  else (ref42_Copy n v0 v1 v2 v3 v4).bind fun y15 =>
  ref42_Step_5 n v0 v1 v2 v3 v4 v5 v7 v8 v9 v10 v11 v12 y15.1 y15.2.1 y15.2.2.1 y15.2.2.2.1 y15.2.2.2.2)
def ref42_Step_3 (n : Nat) (v0 v1 : Int) (v2 v3 v4 : Lv) (v5 v7 v8 v9 v10 v11 v12 : Int) (v14 : Bool) : Option ref42_Step_a :=
  (bif (!v14) then some (0, 0, ([] : Lv), ([] : Lv), ([] : Lv), 420)
  else bif (decide (0 ≤ v7)) then ref42_Step_4 n v0 v1 v2 v3 v4 v5 v7 v8 v9 v10 v11 v12 else none)
def ref42_Step_2 (n : Nat) (v0 v1 : Int) (v2 v3 v4 : Lv) (v5 v6 v7 v8 v9 v10 v11 v12 : Int) (v13 : Bool) : Option ref42_Step_a :=
  (bif (!v13) then some (0, 0, ([] : Lv), ([] : Lv), ([] : Lv), 420)
  else (ref42_formed n v5 v6 v7 v8 v9 v10 v11 v12).bind fun y14 =>
  ref42_Step_3 n v0 v1 v2 v3 v4 v5 v7 v8 v9 v10 v11 v12 y14)
def ref42_Step_1 (n : Nat) (v0 v1 : Int) (v2 v3 v4 : Lv) (v5 v6 v7 v8 v9 v10 v11 v12 : Int) : Option ref42_Step_a :=
  (ref42_Valid n v0 v1 v2 v3 v4).bind fun y13 =>
  ref42_Step_2 n v0 v1 v2 v3 v4 v5 v6 v7 v8 v9 v10 v11 v12 y13
def ref42_Step (n : Nat) (v0 v1 : Int) (v2 v3 v4 : Lv) (v5 v6 v7 v8 v9 v10 v11 v12 : Int) : Option ref42_Step_a := ref42_Step_1 n v0 v1 v2 v3 v4 v5 v6 v7 v8 v9 v10 v11 v12
def ref42_Step_t : FnT := ⟨[(true, [.int, .int, (.sl (.cons .int (.cons .int (.cons .int .nil)))), (.sl (.cons .int .nil)), (.sl (.cons .int .nil))]), (true, [.int, .int, .int, .int, .int, .int, .int, .int])], (.tup (.cons (.agg (.cons .i (.cons .i (.cons (.row 116 (.cons .int (.cons .int (.cons .int .nil)))) (.cons (.row 3 (.cons .int .nil)) (.cons (.row 3 (.cons .int .nil)) .nil)))))) (.cons .i .nil))), fun n (s : Int × Int × Lv × Lv × Lv × Int × Int × Int × Int × Int × Int × Int × Int) => ref42_Step n s.1 s.2.1 s.2.2.1 s.2.2.2.1 s.2.2.2.2.1 s.2.2.2.2.2.1 s.2.2.2.2.2.2.1 s.2.2.2.2.2.2.2.1 s.2.2.2.2.2.2.2.2.1 s.2.2.2.2.2.2.2.2.2.1 s.2.2.2.2.2.2.2.2.2.2.1 s.2.2.2.2.2.2.2.2.2.2.2.1 s.2.2.2.2.2.2.2.2.2.2.2.2⟩
theorem ref42_Step_ok : ref42_Step_t.ok Tryz.prog 17 := FnT.ok_of (cfg := ⟨[((17, 8, 8), .inv [(.tmp 7 .bool), (.tmp 10 .int)])], consR1, [], []⟩) (tab := ref42_hand_T) (mt := mt0) pfit ref42_hand_T_ok mt0_ok (fun s fn hf => by rw [Tryz.func17] at hf; cases hf; kernel_rfl) (fun n s => by kernel_rfl)
def ref42_Step_T : Tab := (17, ref42_Step_t) :: ref42_hand_T
theorem ref42_Step_T_ok : ref42_Step_T.ok Tryz.prog := Tab.ok_cons ref42_Step_ok ref42_hand_T_ok
/-! dialtone/dialtoneref42.Events -/
abbrev ref42_Events_a := Lv
abbrev ref42_Events_s0 := Lv × Int × Int × Int × Int × Lv × Lv × Lv
def ref42_Events_2 (n : Nat) (go0 : ref42_Events_s0 → Option ref42_Events_a) (v5 v6 : Lv) (v7 v8 v9 v10 : Int) (v11 v12 v13 : Lv) : Option ref42_Events_a :=
  (bif (decide (v8 < (v5.length : Int))) then (bif (decide (v8 < 8)) then bif (decide (0 ≤ v8)) then (ref42_One n v9 v10 v11 v12 v13 v7 (cI v5 v8 0) (cI v5 v8 1) (cI v5 v8 2) (cI v5 v8 3) (cI v5 v8 4) (cI v5 v8 5) (cI v5 v8 6)).bind fun y14 =>
  (ref42_Step n v9 v10 v11 v12 v13 y14.1 y14.2.1 y14.2.2.1 y14.2.2.2.1 y14.2.2.2.2.1 y14.2.2.2.2.2.1 y14.2.2.2.2.2.2.1 y14.2.2.2.2.2.2.2).bind fun y22 =>
  (bif (decide (y22.2.2.2.2.2 = 0)) then bif (decide ((((v6.length : Int) + 1) * 64) ≤ 140737488355328)) then bif ((decide ((-9223372036854775808) ≤ (v8 + 1))) && (decide ((v8 + 1) ≤ 9223372036854775807))) then go0 ((v6 ++ [[(AV.int y14.1), (AV.int y14.2.1), (AV.int y14.2.2.1), (AV.int y14.2.2.2.1), (AV.int y14.2.2.2.2.1), (AV.int y14.2.2.2.2.2.1), (AV.int y14.2.2.2.2.2.2.1), (AV.int y14.2.2.2.2.2.2.2)]]), y14.2.1, (v8 + 1), y22.1, y22.2.1, y22.2.2.1, y22.2.2.2.1, y22.2.2.2.2.1) else none else none
  else bif ((decide ((-9223372036854775808) ≤ (v8 + 1))) && (decide ((v8 + 1) ≤ 9223372036854775807))) then go0 (v6, v7, (v8 + 1), v9, v10, v11, v12, v13) else none) else none
  else some v6)
  else some v6)
def ref42_Events_1 (n : Nat) (v0 v1 : Int) (v2 v3 v4 v5 : Lv) : Option ref42_Events_a :=
  (iterF (fun go0 s => ref42_Events_2 n go0 v5 s.1 s.2.1 s.2.2.1 s.2.2.2.1 s.2.2.2.2.1 s.2.2.2.2.2.1 s.2.2.2.2.2.2.1 s.2.2.2.2.2.2.2) n ((([] : Lv), 0, 0, v0, v1, v2, v3, v4) : ref42_Events_s0))
def ref42_Events (n : Nat) (v0 v1 : Int) (v2 v3 v4 v5 : Lv) : Option ref42_Events_a := ref42_Events_1 n v0 v1 v2 v3 v4 v5
def ref42_Events_t : FnT := ⟨[(true, [.int, .int, (.sl (.cons .int (.cons .int (.cons .int .nil)))), (.sl (.cons .int .nil)), (.sl (.cons .int .nil))]), (false, [(.sl (.cons .int (.cons .int (.cons .int (.cons .int (.cons .int (.cons .int (.cons .int .nil))))))))])], (.row 41 (.cons .int (.cons .int (.cons .int (.cons .int (.cons .int (.cons .int (.cons .int (.cons .int .nil))))))))), fun n (s : Int × Int × Lv × Lv × Lv × Lv) => ref42_Events n s.1 s.2.1 s.2.2.1 s.2.2.2.1 s.2.2.2.2.1 s.2.2.2.2.2⟩
theorem ref42_Events_ok : ref42_Events_t.ok Tryz.prog 13 := FnT.ok_of (cfg := ⟨[((13, 4, 1), .inv [(.tmprow 5 41 (.cons .int (.cons .int (.cons .int (.cons .int (.cons .int (.cons .int (.cons .int (.cons .int .nil))))))))), (.tmp 6 .int), (.tmp 7 .int), (.cell 0 0 .int), (.cell 0 1 .int), (.cell 0 2 (.sl (.cons .int (.cons .int (.cons .int .nil))))), (.cell 0 3 (.sl (.cons .int .nil))), (.cell 0 4 (.sl (.cons .int .nil)))])], consR1, [], []⟩) (tab := ref42_Step_T) (mt := mt0) pfit ref42_Step_T_ok mt0_ok (fun s fn hf => by rw [Tryz.func13] at hf; cases hf; kernel_rfl) (fun n s => by kernel_rfl)
def ref42_Events_T : Tab := (13, ref42_Events_t) :: ref42_Step_T
theorem ref42_Events_T_ok : ref42_Events_T.ok Tryz.prog := Tab.ok_cons ref42_Events_ok ref42_Step_T_ok
end
end Go.Proofs.YtgckmifmjiklmaaGreat
