/-
  Plain functions for functions of the program, each with its contract (printed by decomp.py).
-/
import Derived.Test.YtjhakonpnopcnaaSxP
import Derived.Test.YtjhakonpnopcnaaSx25
import Derived.Test.YtjhakonpnopcnaaD1
set_option linter.unusedSimpArgs false
set_option linter.unusedVariables false
set_option maxRecDepth 100000
namespace Go.Proofs.Ytjhakonpnopcnaa
open Go Go.Sx
noncomputable section
def consD2 : List Nat := [4, 5, 6, 7, 8, 9, 10, 11, 12, 13, 14, 15, 16, 17, 18, 19, 20, 21, 22, 23, 24, 25, 26, 31, 32, 35, 36, 40, 42, 1000006, 1000007]
/-! dialtone/dialtoneref14.Keep -/
abbrev ref14_Keep_a := Int × Int × Int
def ref14_Keep_1 (n : Nat) (v0 : Lv) (v1 : Int) : Option ref14_Keep_a :=
  (ref14_At n v0 v1).bind fun y2 =>
  (bif (!(decide (y2.2.2.2.2 = 0))) then some (0, 0, 140)
  else (bif (decide (y2.1 = 1)) then some (y2.2.2.1, v1, 0)
  else (bif (!(decide (y2.1 = 2))) then some (0, 0, 140)
  else some (y2.2.2.1, v1, 0))))
def ref14_Keep (n : Nat) (v0 : Lv) (v1 : Int) : Option ref14_Keep_a := ref14_Keep_1 n v0 v1
def ref14_Keep_t : FnT := ⟨[(false, [(.sl (.cons .int (.cons .int (.cons .int .nil))))]), (false, [.int])], (.tup (.cons (.agg (.cons .i (.cons .i .nil))) (.cons .i .nil))), fun n (s : Lv × Int) => ref14_Keep n s.1 s.2⟩
theorem ref14_Keep_ok : ref14_Keep_t.ok Try.prog 19 := FnT.ok_of (cfg := ⟨[], consD2, [], []⟩) (tab := life_At_T) (mt := mt0) pfit life_At_T_ok mt0_ok (fun s fn hf => by rw [Try.func19] at hf; cases hf; kernel_rfl) (fun n s => by kernel_rfl)
def ref14_Keep_T : Tab := (19, ref14_Keep_t) :: life_At_T
theorem ref14_Keep_T_ok : ref14_Keep_T.ok Try.prog := Tab.ok_cons ref14_Keep_ok life_At_T_ok
/-! dialtone/dialtoneref14.Fate -/
abbrev ref14_Fate_a := Int × Int × Int
def ref14_Fate_1 (n : Nat) (v0 : Lv) (v1 v2 v3 : Int) : Option ref14_Fate_a :=
  (ref14_Keep n v0 v2).bind fun y4 =>
  (bif (!(decide (y4.2.2 = 0))) then some (0, 0, 140)
  else (bif (!((decide (y4.1 = v1)) && (decide (y4.2.1 = v2)))) then some (0, 0, 140)
  else (bif (decide (v3 < v2)) then some (0, 0, 140)
  else (bif (decide (10000000 < v3)) then some (0, 0, 140)
  else (ref14_at n v0 v3).bind fun y7 =>
  (bif (!(decide (y7.2.2.1 = v1))) then some (3, (-1), 0)
  else (bif (decide (y7.1 = 0)) then some (3, (-1), 0)
  else (bif (decide (y7.1 = 1)) then some (1, y7.2.1, 0)
  else some (2, (-1), 0))))))))
def ref14_Fate (n : Nat) (v0 : Lv) (v1 v2 v3 : Int) : Option ref14_Fate_a := ref14_Fate_1 n v0 v1 v2 v3
def ref14_Fate_t : FnT := ⟨[(false, [(.sl (.cons .int (.cons .int (.cons .int .nil))))]), (true, [.int, .int]), (false, [.int])], (.tup (.cons .i (.cons .i (.cons .i .nil)))), fun n (s : Lv × Int × Int × Int) => ref14_Fate n s.1 s.2.1 s.2.2.1 s.2.2.2⟩
theorem ref14_Fate_ok : ref14_Fate_t.ok Try.prog 22 := FnT.ok_of (cfg := ⟨[], consD2, [], []⟩) (tab := ref14_Keep_T) (mt := mt0) pfit ref14_Keep_T_ok mt0_ok (fun s fn hf => by rw [Try.func22] at hf; cases hf; kernel_rfl) (fun n s => by kernel_rfl)
def ref14_Fate_T : Tab := (22, ref14_Fate_t) :: ref14_Keep_T
theorem ref14_Fate_T_ok : ref14_Fate_T.ok Try.prog := Tab.ok_cons ref14_Fate_ok ref14_Keep_T_ok
/-! dialtone/dialtoneref14.Stays -/
abbrev ref14_Stays_a := Lv × Int
abbrev ref14_Stays_s0 := Lv × Int
def ref14_Stays_4 (n : Nat) (go0 : ref14_Stays_s0 → Option ref14_Stays_a) (v0 v2 : Lv) (v3 : Int) : Option ref14_Stays_a :=
  (bif (decide ((v3 + 1) < (v0.length : Int))) then bif (decide (0 ≤ (v3 + 1))) then (ref14_at n v0 (cI v0 v3 1)).bind fun y4 =>
  (bif (decide ((cI v0 v3 1) = (cI v0 (v3 + 1) 1))) then go0 (v2, (v3 + 1))
  else (bif (decide (y4.1 = 1)) then (bif (decide (0 < (v2.length : Int))) then bif ((decide ((-9223372036854775808) ≤ ((v2.length : Int) - 1))) && (decide (((v2.length : Int) - 1) ≤ 9223372036854775807))) then bif (decide (0 ≤ ((v2.length : Int) - 1))) then bif (decide (((v2.length : Int) - 1) < (v2.length : Int))) then (bif (decide ((cI v2 ((v2.length : Int) - 1) 1) = y4.2.2.1)) then (bif (decide ((cI v2 ((v2.length : Int) - 1) 3) = (cI v0 v3 1))) then go0 ((List.modify v2 (((v2.length : Int) - 1)).toNat (fun r => r.set 3 (AV.int (cI v0 (v3 + 1) 1)))), (v3 + 1))
  else bif (decide ((((v2.length : Int) + 1) * 32) ≤ 140737488355328)) then go0 ((v2 ++ [[(AV.int y4.2.1), (AV.int y4.2.2.1), (AV.int (cI v0 v3 1)), (AV.int (cI v0 (v3 + 1) 1))]]), (v3 + 1)) else none)
  else bif (decide ((((v2.length : Int) + 1) * 32) ≤ 140737488355328)) then go0 ((v2 ++ [[(AV.int y4.2.1), (AV.int y4.2.2.1), (AV.int (cI v0 v3 1)), (AV.int (cI v0 (v3 + 1) 1))]]), (v3 + 1)) else none) else none else none else none
  else bif (decide ((((v2.length : Int) + 1) * 32) ≤ 140737488355328)) then go0 ((v2 ++ [[(AV.int y4.2.1), (AV.int y4.2.2.1), (AV.int (cI v0 v3 1)), (AV.int (cI v0 (v3 + 1) 1))]]), (v3 + 1)) else none)
  else (bif (!(decide (y4.1 = 2))) then go0 (v2, (v3 + 1))
  else (bif (decide (0 < (v2.length : Int))) then bif ((decide ((-9223372036854775808) ≤ ((v2.length : Int) - 1))) && (decide (((v2.length : Int) - 1) ≤ 9223372036854775807))) then bif (decide (0 ≤ ((v2.length : Int) - 1))) then bif (decide (((v2.length : Int) - 1) < (v2.length : Int))) then (bif (decide ((cI v2 ((v2.length : Int) - 1) 1) = y4.2.2.1)) then (bif (decide ((cI v2 ((v2.length : Int) - 1) 3) = (cI v0 v3 1))) then go0 ((List.modify v2 (((v2.length : Int) - 1)).toNat (fun r => r.set 3 (AV.int (cI v0 (v3 + 1) 1)))), (v3 + 1))
  else bif (decide ((((v2.length : Int) + 1) * 32) ≤ 140737488355328)) then go0 ((v2 ++ [[(AV.int y4.2.1), (AV.int y4.2.2.1), (AV.int (cI v0 v3 1)), (AV.int (cI v0 (v3 + 1) 1))]]), (v3 + 1)) else none)
  else bif (decide ((((v2.length : Int) + 1) * 32) ≤ 140737488355328)) then go0 ((v2 ++ [[(AV.int y4.2.1), (AV.int y4.2.2.1), (AV.int (cI v0 v3 1)), (AV.int (cI v0 (v3 + 1) 1))]]), (v3 + 1)) else none) else none else none else none
  else bif (decide ((((v2.length : Int) + 1) * 32) ≤ 140737488355328)) then go0 ((v2 ++ [[(AV.int y4.2.1), (AV.int y4.2.2.1), (AV.int (cI v0 v3 1)), (AV.int (cI v0 (v3 + 1) 1))]]), (v3 + 1)) else none)))) else none
  else (ref14_at n v0 (cI v0 v3 1)).bind fun y4 =>
  (bif (decide ((cI v0 v3 1) = 10000001)) then go0 (v2, (v3 + 1))
  else (bif (decide (y4.1 = 1)) then (bif (decide (0 < (v2.length : Int))) then bif ((decide ((-9223372036854775808) ≤ ((v2.length : Int) - 1))) && (decide (((v2.length : Int) - 1) ≤ 9223372036854775807))) then bif (decide (0 ≤ ((v2.length : Int) - 1))) then bif (decide (((v2.length : Int) - 1) < (v2.length : Int))) then (bif (decide ((cI v2 ((v2.length : Int) - 1) 1) = y4.2.2.1)) then (bif (decide ((cI v2 ((v2.length : Int) - 1) 3) = (cI v0 v3 1))) then go0 ((List.modify v2 (((v2.length : Int) - 1)).toNat (fun r => r.set 3 (AV.int 10000001))), (v3 + 1))
  else bif (decide ((((v2.length : Int) + 1) * 32) ≤ 140737488355328)) then go0 ((v2 ++ [[(AV.int y4.2.1), (AV.int y4.2.2.1), (AV.int (cI v0 v3 1)), (AV.int 10000001)]]), (v3 + 1)) else none)
  else bif (decide ((((v2.length : Int) + 1) * 32) ≤ 140737488355328)) then go0 ((v2 ++ [[(AV.int y4.2.1), (AV.int y4.2.2.1), (AV.int (cI v0 v3 1)), (AV.int 10000001)]]), (v3 + 1)) else none) else none else none else none
  else bif (decide ((((v2.length : Int) + 1) * 32) ≤ 140737488355328)) then go0 ((v2 ++ [[(AV.int y4.2.1), (AV.int y4.2.2.1), (AV.int (cI v0 v3 1)), (AV.int 10000001)]]), (v3 + 1)) else none)
  else (bif (!(decide (y4.1 = 2))) then go0 (v2, (v3 + 1))
  else (bif (decide (0 < (v2.length : Int))) then bif ((decide ((-9223372036854775808) ≤ ((v2.length : Int) - 1))) && (decide (((v2.length : Int) - 1) ≤ 9223372036854775807))) then bif (decide (0 ≤ ((v2.length : Int) - 1))) then bif (decide (((v2.length : Int) - 1) < (v2.length : Int))) then (bif (decide ((cI v2 ((v2.length : Int) - 1) 1) = y4.2.2.1)) then (bif (decide ((cI v2 ((v2.length : Int) - 1) 3) = (cI v0 v3 1))) then go0 ((List.modify v2 (((v2.length : Int) - 1)).toNat (fun r => r.set 3 (AV.int 10000001))), (v3 + 1))
  else bif (decide ((((v2.length : Int) + 1) * 32) ≤ 140737488355328)) then go0 ((v2 ++ [[(AV.int y4.2.1), (AV.int y4.2.2.1), (AV.int (cI v0 v3 1)), (AV.int 10000001)]]), (v3 + 1)) else none)
  else bif (decide ((((v2.length : Int) + 1) * 32) ≤ 140737488355328)) then go0 ((v2 ++ [[(AV.int y4.2.1), (AV.int y4.2.2.1), (AV.int (cI v0 v3 1)), (AV.int 10000001)]]), (v3 + 1)) else none) else none else none else none
  else bif (decide ((((v2.length : Int) + 1) * 32) ≤ 140737488355328)) then go0 ((v2 ++ [[(AV.int y4.2.1), (AV.int y4.2.2.1), (AV.int (cI v0 v3 1)), (AV.int 10000001)]]), (v3 + 1)) else none)))))
def ref14_Stays_3 (n : Nat) (go0 : ref14_Stays_s0 → Option ref14_Stays_a) (v0 v2 : Lv) (v3 : Int) : Option ref14_Stays_a :=
  (bif (decide (v3 < (v0.length : Int))) then bif (decide (0 ≤ v3)) then bif ((decide ((-9223372036854775808) ≤ (v3 + 1))) && (decide ((v3 + 1) ≤ 9223372036854775807))) then ref14_Stays_4 n go0 v0 v2 v3 else none else none
  else some (v2, 0))
def ref14_Stays_2 (n : Nat) (v0 : Lv) (v1 : Bool) : Option ref14_Stays_a :=
  (bif (!v1) then some (([] : Lv), 140)
  else (iterF (fun go0 s => ref14_Stays_3 n go0 v0 s.1 s.2) n ((([] : Lv), 0) : ref14_Stays_s0)))
def ref14_Stays_1 (n : Nat) (v0 : Lv) : Option ref14_Stays_a :=
  (ref14_Is n v0).bind fun y1 =>
  ref14_Stays_2 n v0 y1
def ref14_Stays (n : Nat) (v0 : Lv) : Option ref14_Stays_a := ref14_Stays_1 n v0
def ref14_Stays_t : FnT := ⟨[(false, [(.sl (.cons .int (.cons .int (.cons .int .nil))))])], (.tup (.cons (.row 66 (.cons .int (.cons .int (.cons .int (.cons .int .nil))))) (.cons .i .nil))), fun n (s : Lv) => ref14_Stays n s⟩
theorem ref14_Stays_ok : ref14_Stays_t.ok Try.prog 11 := FnT.ok_of (cfg := ⟨[((11, 5, 0), .inv [(.tmprow 4 66 (.cons .int (.cons .int (.cons .int (.cons .int .nil))))), (.tmp 5 .int)])], consD2, [], []⟩) (tab := ref14_Fate_T) (mt := mt0) pfit ref14_Fate_T_ok mt0_ok (fun s fn hf => by rw [Try.func11] at hf; cases hf; kernel_rfl) (fun n s => by kernel_rfl)
def ref14_Stays_T : Tab := (11, ref14_Stays_t) :: ref14_Fate_T
theorem ref14_Stays_T_ok : ref14_Stays_T.ok Try.prog := Tab.ok_cons ref14_Stays_ok ref14_Fate_T_ok
/-! dialtone/dialtoneref14.SameStays -/
abbrev ref14_SameStays_a := Bool
abbrev ref14_SameStays_s0 := Int
def ref14_SameStays_2 (n : Nat) (go0 : ref14_SameStays_s0 → Option ref14_SameStays_a) (v0 v1 : Lv) (v2 : Int) : Option ref14_SameStays_a :=
  (bif (decide (v2 < (v0.length : Int))) then bif (decide (0 ≤ v2)) then bif (decide (v2 < (v1.length : Int))) then (bif (!((decide ((cI v0 v2 0) = (cI v1 v2 0))) && ((decide ((cI v0 v2 1) = (cI v1 v2 1))) && (((decide ((cI v0 v2 2) = (cI v1 v2 2))) && (decide ((cI v0 v2 3) = (cI v1 v2 3)))) == true)))) then some false
  else bif ((decide ((-9223372036854775808) ≤ (v2 + 1))) && (decide ((v2 + 1) ≤ 9223372036854775807))) then go0 (v2 + 1) else none) else none else none
  else some true)
def ref14_SameStays_1 (n : Nat) (v0 v1 : Lv) : Option ref14_SameStays_a :=
  (bif (!(decide ((v0.length : Int) = (v1.length : Int)))) then some false
  else (iterF (fun go0 s => ref14_SameStays_2 n go0 v0 v1 s) n (0 : ref14_SameStays_s0)))
def ref14_SameStays (n : Nat) (v0 v1 : Lv) : Option ref14_SameStays_a := ref14_SameStays_1 n v0 v1
def ref14_SameStays_t : FnT := ⟨[(false, [(.sl (.cons .int (.cons .int (.cons .int (.cons .int .nil)))))]), (false, [(.sl (.cons .int (.cons .int (.cons .int (.cons .int .nil)))))])], .b, fun n (s : Lv × Lv) => ref14_SameStays n s.1 s.2⟩
theorem ref14_SameStays_ok : ref14_SameStays_t.ok Try.prog 12 := FnT.ok_of (cfg := ⟨[((12, 4, 0), .inv [(.tmp 5 .int)])], consD2, [], []⟩) (tab := ref14_Stays_T) (mt := mt0) pfit ref14_Stays_T_ok mt0_ok (fun s fn hf => by rw [Try.func12] at hf; cases hf; kernel_rfl) (fun n s => by kernel_rfl)
def ref14_SameStays_T : Tab := (12, ref14_SameStays_t) :: ref14_Stays_T
theorem ref14_SameStays_T_ok : ref14_SameStays_T.ok Try.prog := Tab.ok_cons ref14_SameStays_ok ref14_Stays_T_ok
/-! dialtone/dialtoneref14.Bent -/
abbrev ref14_Bent_a := Lv
abbrev ref14_Bent_s0 := Lv
def ref14_Bent_2 (n : Nat) (go0 : ref14_Bent_s0 → Option ref14_Bent_a) (v2 : Int) (v6 : Lv) : Option ref14_Bent_a :=
  (ref14_pick n v2 4).bind fun y7 =>
  bif ((decide ((-9223372036854775808) ≤ (38 + y7))) && (decide ((38 + y7) ≤ 9223372036854775807))) then (bif (decide ((v6.length : Int) < (38 + y7))) then bif ((decide ((-9223372036854775808) ≤ ((v6.length : Int) - 1))) && (decide (((v6.length : Int) - 1) ≤ 9223372036854775807))) then bif (decide (0 ≤ ((v6.length : Int) - 1))) then bif (decide (((v6.length : Int) - 1) < (v6.length : Int))) then (bif (decide ((cI v6 ((v6.length : Int) - 1) 1) < 10000000)) then (bif (decide ((cI v6 ((v6.length : Int) - 1) 0) = 3)) then bif (decide ((((v6.length : Int) + 1) * 24) ≤ 140737488355328)) then go0 (v6 ++ [[(AV.int 4), (AV.int (cI v6 ((v6.length : Int) - 1) 1)), (AV.int (-1))]]) else none
  else bif (decide ((((v6.length : Int) + 1) * 24) ≤ 140737488355328)) then go0 (v6 ++ [[(AV.int 3), (AV.int (cI v6 ((v6.length : Int) - 1) 1)), (AV.int (-1))]]) else none)
  else some v6) else none else none else none
  else some v6) else none
def ref14_Bent_1 (n : Nat) (v0 : Lv) (v1 v2 v3 : Int) : Option ref14_Bent_a :=
  bif (decide (((v0.length : Int) * 24) ≤ 140737488355328)) then (bif (decide ((v0.length : Int) = 0)) then some (([] : Lv) ++ [[(AV.int v2), (AV.int 0), (AV.int v3)]])
  else (ref14_pick n v3 (v0.length : Int)).bind fun y4 =>
  (ref14_pick n v1 6).bind fun y5 =>
  (bif (decide (y5 = 0)) then bif (decide (0 ≤ y4)) then bif (decide (y4 < (v0.length : Int))) then some (List.modify v0 (y4).toNat (fun r => r.set 0 (AV.int v2))) else none else none
  else (bif (decide (y5 = 1)) then bif (decide (0 ≤ y4)) then bif (decide (y4 < (v0.length : Int))) then some (List.modify v0 (y4).toNat (fun r => r.set 1 (AV.int v2))) else none else none
  else (bif (decide (y5 = 2)) then bif (decide (0 ≤ y4)) then bif (decide (y4 < (v0.length : Int))) then some (List.modify v0 (y4).toNat (fun r => r.set 2 (AV.int v2))) else none else none
  else (bif (decide (y5 = 3)) then bif (decide (0 ≤ y4)) then bif (decide (y4 ≤ (v0.length : Int))) then bif ((decide ((-9223372036854775808) ≤ (y4 + 1))) && (decide ((y4 + 1) ≤ 9223372036854775807))) then bif (decide (0 ≤ (y4 + 1))) then bif (decide ((y4 + 1) ≤ (v0.length : Int))) then bif (decide ((v0.length : Int) ≤ (v0.length : Int))) then bif (decide (((((List.take (y4).toNat v0) ++ (List.drop ((y4 + 1)).toNat (List.take ((v0.length : Int)).toNat v0))).length : Int) * 24) ≤ 140737488355328)) then some ((List.take (y4).toNat v0) ++ (List.drop ((y4 + 1)).toNat (List.take ((v0.length : Int)).toNat v0))) else none else none else none else none else none else none else none
  else (bif (decide (y5 = 4)) then bif (decide (0 ≤ y4)) then bif (decide (y4 < (v0.length : Int))) then bif (decide ((((v0.length : Int) + 1) * 24) ≤ 140737488355328)) then some (v0 ++ [[(AV.int (cI v0 y4 0)), (AV.int (cI v0 y4 1)), (AV.int (cI v0 y4 2))]]) else none else none else none
  else (iterF (fun go0 s => ref14_Bent_2 n go0 v2 s) n (v0 : ref14_Bent_s0)))))))) else none
def ref14_Bent (n : Nat) (v0 : Lv) (v1 v2 v3 : Int) : Option ref14_Bent_a := ref14_Bent_1 n v0 v1 v2 v3
def ref14_Bent_t : FnT := ⟨[(false, [(.sl (.cons .int (.cons .int (.cons .int .nil))))]), (false, [.int]), (false, [.int]), (false, [.int])], (.row 1000054 (.cons .int (.cons .int (.cons .int .nil)))), fun n (s : Lv × Int × Int × Int) => ref14_Bent n s.1 s.2.1 s.2.2.1 s.2.2.2⟩
theorem ref14_Bent_ok : ref14_Bent_t.ok Try.prog 6 := FnT.ok_of (cfg := ⟨[((6, 6, 2), .inv [(.tmprow 9 54 (.cons .int (.cons .int (.cons .int .nil))))])], consD2, [], []⟩) (tab := ref14_SameStays_T) (mt := mt0) pfit ref14_SameStays_T_ok mt0_ok (fun s fn hf => by rw [Try.func6] at hf; cases hf; kernel_rfl) (fun n s => by kernel_rfl)
def ref14_Bent_T : Tab := (6, ref14_Bent_t) :: ref14_SameStays_T
theorem ref14_Bent_T_ok : ref14_Bent_T.ok Try.prog := Tab.ok_cons ref14_Bent_ok ref14_SameStays_T_ok
/-! dialtone/dialtoneref14.Time -/
abbrev ref14_Time_a := Int
def ref14_Time_1 (n : Nat) (v0 : Lv) (v1 : Int) : Option ref14_Time_a :=
  bif ((decide ((-9223372036854775808) ≤ ((v0.length : Int) + 2))) && (decide (((v0.length : Int) + 2) ≤ 9223372036854775807))) then (ref14_pick n v1 ((v0.length : Int) + 2)).bind fun y2 =>
  (bif (decide (y2 < (v0.length : Int))) then bif (decide (0 ≤ y2)) then bif ((decide ((-9223372036854775808) ≤ (Int.tdiv v1 64))) && (decide ((Int.tdiv v1 64) ≤ 9223372036854775807))) then (ref14_pick n (Int.tdiv v1 64) 3).bind fun y3 =>
  bif ((decide ((-9223372036854775808) ≤ ((cI v0 y2 1) + y3))) && (decide (((cI v0 y2 1) + y3) ≤ 9223372036854775807))) then bif ((decide ((-9223372036854775808) ≤ (((cI v0 y2 1) + y3) - 1))) && (decide ((((cI v0 y2 1) + y3) - 1) ≤ 9223372036854775807))) then some (imin (imax (((cI v0 y2 1) + y3) - 1) 0) 10000000) else none else none else none else none
  else (bif (decide (y2 = (v0.length : Int))) then bif ((decide ((-9223372036854775808) ≤ (Int.tdiv v1 64))) && (decide ((Int.tdiv v1 64) ≤ 9223372036854775807))) then (ref14_pick n (Int.tdiv v1 64) 3).bind fun y3 =>
  bif ((decide ((-9223372036854775808) ≤ (10000000 + y3))) && (decide ((10000000 + y3) ≤ 9223372036854775807))) then bif ((decide ((-9223372036854775808) ≤ ((10000000 + y3) - 1))) && (decide (((10000000 + y3) - 1) ≤ 9223372036854775807))) then some (imin (imax ((10000000 + y3) - 1) 0) 10000000) else none else none else none
  else bif ((decide ((-9223372036854775808) ≤ (Int.tdiv v1 64))) && (decide ((Int.tdiv v1 64) ≤ 9223372036854775807))) then (ref14_pick n (Int.tdiv v1 64) 3).bind fun y3 =>
  bif ((decide ((-9223372036854775808) ≤ (0 + y3))) && (decide ((0 + y3) ≤ 9223372036854775807))) then bif ((decide ((-9223372036854775808) ≤ ((0 + y3) - 1))) && (decide (((0 + y3) - 1) ≤ 9223372036854775807))) then some (imin (imax ((0 + y3) - 1) 0) 10000000) else none else none else none)) else none
def ref14_Time (n : Nat) (v0 : Lv) (v1 : Int) : Option ref14_Time_a := ref14_Time_1 n v0 v1
def ref14_Time_t : FnT := ⟨[(false, [(.sl (.cons .int (.cons .int (.cons .int .nil))))]), (false, [.int])], .i, fun n (s : Lv × Int) => ref14_Time n s.1 s.2⟩
theorem ref14_Time_ok : ref14_Time_t.ok Try.prog 15 := FnT.ok_of (cfg := ⟨[], consD2, [], []⟩) (tab := ref14_Bent_T) (mt := mt0) pfit ref14_Bent_T_ok mt0_ok (fun s fn hf => by rw [Try.func15] at hf; cases hf; kernel_rfl) (fun n s => by kernel_rfl)
def ref14_Time_T : Tab := (15, ref14_Time_t) :: ref14_Bent_T
theorem ref14_Time_T_ok : ref14_Time_T.ok Try.prog := Tab.ok_cons ref14_Time_ok ref14_Bent_T_ok
/-! dialtone/life.Keep -/
abbrev life_Keep_a := Int × Int × Int
def life_Keep_1 (n : Nat) (v0 : Lv) (v1 : Int) : Option life_Keep_a :=
  (life_at n v0 v1).bind fun y2 =>
  (bif (!y2.2.2.2.2) then some (0, 0, 140)
  else (bif (decide (y2.1 = 1)) then some (y2.2.2.1, v1, 0)
  else (bif (!(decide (y2.1 = 2))) then some (0, 0, 140)
  else some (y2.2.2.1, v1, 0))))
def life_Keep (n : Nat) (v0 : Lv) (v1 : Int) : Option life_Keep_a := life_Keep_1 n v0 v1
def life_Keep_t : FnT := ⟨[(false, [(.sl (.cons .int (.cons .int (.cons .int .nil))))]), (false, [.int])], (.tup (.cons (.agg (.cons .i (.cons .i .nil))) (.cons .i .nil))), fun n (s : Lv × Int) => life_Keep n s.1 s.2⟩
theorem life_Keep_ok : life_Keep_t.ok Try.prog 18 := FnT.ok_of (cfg := ⟨[], consD2, [], []⟩) (tab := ref14_Time_T) (mt := mt0) pfit ref14_Time_T_ok mt0_ok (fun s fn hf => by rw [Try.func18] at hf; cases hf; kernel_rfl) (fun n s => by kernel_rfl)
def life_Keep_T : Tab := (18, life_Keep_t) :: ref14_Time_T
theorem life_Keep_T_ok : life_Keep_T.ok Try.prog := Tab.ok_cons life_Keep_ok ref14_Time_T_ok
/-! dialtone/life.Fate -/
abbrev life_Fate_a := Int × Int × Int
def life_Fate_1 (n : Nat) (v0 : Lv) (v1 v2 v3 : Int) : Option life_Fate_a :=
  (life_Keep n v0 v2).bind fun y4 =>
  (life_at n v0 v3).bind fun y7 =>
  (bif (!(decide (y4.2.2 = 0))) then some (0, 0, 140)
  else (bif (!(decide (y4.1 = v1))) then some (0, 0, 140)
  else (bif (!y7.2.2.2.2) then some (0, 0, 140)
  else (bif (decide (v3 < v2)) then some (0, 0, 140)
  else (bif (decide (y7.1 = 0)) then some (3, (-1), 0)
  else (bif (!(decide (y7.2.2.1 = v1))) then some (3, (-1), 0)
  else (bif (decide (y7.1 = 1)) then some (1, y7.2.1, 0)
  else some (2, (-1), 0))))))))
def life_Fate (n : Nat) (v0 : Lv) (v1 v2 v3 : Int) : Option life_Fate_a := life_Fate_1 n v0 v1 v2 v3
def life_Fate_t : FnT := ⟨[(false, [(.sl (.cons .int (.cons .int (.cons .int .nil))))]), (true, [.int, .int]), (false, [.int])], (.tup (.cons .i (.cons .i (.cons .i .nil)))), fun n (s : Lv × Int × Int × Int) => life_Fate n s.1 s.2.1 s.2.2.1 s.2.2.2⟩
theorem life_Fate_ok : life_Fate_t.ok Try.prog 21 := FnT.ok_of (cfg := ⟨[], consD2, [], []⟩) (tab := life_Keep_T) (mt := mt0) pfit life_Keep_T_ok mt0_ok (fun s fn hf => by rw [Try.func21] at hf; cases hf; kernel_rfl) (fun n s => by kernel_rfl)
def life_Fate_T : Tab := (21, life_Fate_t) :: life_Keep_T
theorem life_Fate_T_ok : life_Fate_T.ok Try.prog := Tab.ok_cons life_Fate_ok life_Keep_T_ok
/-! dialtone/life.Stays -/
abbrev life_Stays_a := Lv × Int
abbrev life_Stays_s0 := Int × Lv × Int × Int × Int × Int
def life_Stays_5 (n : Nat) (go0 : life_Stays_s0 → Option life_Stays_a) (v0 : Lv) (v7 : Int) (v8 : Lv) (v13 v14 v15 v16 : Int) : Option life_Stays_a :=
  (bif (decide (v13 = 1)) then bif ((decide ((-9223372036854775808) ≤ (v7 + 1))) && (decide ((v7 + 1) ≤ 9223372036854775807))) then (bif (decide ((v7 + 1) < (v0.length : Int))) then bif (decide (0 ≤ (v7 + 1))) then (bif (decide (v16 = (cI v0 (v7 + 1) 1))) then go0 ((v7 + 1), v8, v13, v14, v15, v16)
  else (bif (decide (0 < (v8.length : Int))) then bif ((decide ((-9223372036854775808) ≤ ((v8.length : Int) - 1))) && (decide (((v8.length : Int) - 1) ≤ 9223372036854775807))) then bif (decide (0 ≤ ((v8.length : Int) - 1))) then bif (decide (((v8.length : Int) - 1) < (v8.length : Int))) then (bif (decide ((cI v8 ((v8.length : Int) - 1) 1) = v15)) then (bif (decide ((cI v8 ((v8.length : Int) - 1) 3) = v16)) then go0 ((v7 + 1), (List.modify v8 (((v8.length : Int) - 1)).toNat (fun r => r.set 3 (AV.int (cI v0 (v7 + 1) 1)))), v13, v14, v15, v16)
  else bif (decide ((((v8.length : Int) + 1) * 32) ≤ 140737488355328)) then go0 ((v7 + 1), (v8 ++ [[(AV.int v14), (AV.int v15), (AV.int v16), (AV.int (cI v0 (v7 + 1) 1))]]), v13, v14, v15, v16) else none)
  else bif (decide ((((v8.length : Int) + 1) * 32) ≤ 140737488355328)) then go0 ((v7 + 1), (v8 ++ [[(AV.int v14), (AV.int v15), (AV.int v16), (AV.int (cI v0 (v7 + 1) 1))]]), v13, v14, v15, v16) else none) else none else none else none
  else bif (decide ((((v8.length : Int) + 1) * 32) ≤ 140737488355328)) then go0 ((v7 + 1), (v8 ++ [[(AV.int v14), (AV.int v15), (AV.int v16), (AV.int (cI v0 (v7 + 1) 1))]]), v13, v14, v15, v16) else none)) else none
  else (bif (decide (v16 = 10000001)) then go0 ((v7 + 1), v8, v13, v14, v15, v16)
  else (bif (decide (0 < (v8.length : Int))) then bif ((decide ((-9223372036854775808) ≤ ((v8.length : Int) - 1))) && (decide (((v8.length : Int) - 1) ≤ 9223372036854775807))) then bif (decide (0 ≤ ((v8.length : Int) - 1))) then bif (decide (((v8.length : Int) - 1) < (v8.length : Int))) then (bif (decide ((cI v8 ((v8.length : Int) - 1) 1) = v15)) then (bif (decide ((cI v8 ((v8.length : Int) - 1) 3) = v16)) then go0 ((v7 + 1), (List.modify v8 (((v8.length : Int) - 1)).toNat (fun r => r.set 3 (AV.int 10000001))), v13, v14, v15, v16)
  else bif (decide ((((v8.length : Int) + 1) * 32) ≤ 140737488355328)) then go0 ((v7 + 1), (v8 ++ [[(AV.int v14), (AV.int v15), (AV.int v16), (AV.int 10000001)]]), v13, v14, v15, v16) else none)
  else bif (decide ((((v8.length : Int) + 1) * 32) ≤ 140737488355328)) then go0 ((v7 + 1), (v8 ++ [[(AV.int v14), (AV.int v15), (AV.int v16), (AV.int 10000001)]]), v13, v14, v15, v16) else none) else none else none else none
  else bif (decide ((((v8.length : Int) + 1) * 32) ≤ 140737488355328)) then go0 ((v7 + 1), (v8 ++ [[(AV.int v14), (AV.int v15), (AV.int v16), (AV.int 10000001)]]), v13, v14, v15, v16) else none))) else none
  else (bif (!(decide (v13 = 2))) then bif ((decide ((-9223372036854775808) ≤ (v7 + 1))) && (decide ((v7 + 1) ≤ 9223372036854775807))) then go0 ((v7 + 1), v8, v13, v14, v15, v16) else none
  else bif ((decide ((-9223372036854775808) ≤ (v7 + 1))) && (decide ((v7 + 1) ≤ 9223372036854775807))) then (bif (decide ((v7 + 1) < (v0.length : Int))) then bif (decide (0 ≤ (v7 + 1))) then (bif (decide (v16 = (cI v0 (v7 + 1) 1))) then go0 ((v7 + 1), v8, v13, v14, v15, v16)
  else (bif (decide (0 < (v8.length : Int))) then bif ((decide ((-9223372036854775808) ≤ ((v8.length : Int) - 1))) && (decide (((v8.length : Int) - 1) ≤ 9223372036854775807))) then bif (decide (0 ≤ ((v8.length : Int) - 1))) then bif (decide (((v8.length : Int) - 1) < (v8.length : Int))) then (bif (decide ((cI v8 ((v8.length : Int) - 1) 1) = v15)) then (bif (decide ((cI v8 ((v8.length : Int) - 1) 3) = v16)) then go0 ((v7 + 1), (List.modify v8 (((v8.length : Int) - 1)).toNat (fun r => r.set 3 (AV.int (cI v0 (v7 + 1) 1)))), v13, v14, v15, v16)
  else bif (decide ((((v8.length : Int) + 1) * 32) ≤ 140737488355328)) then go0 ((v7 + 1), (v8 ++ [[(AV.int v14), (AV.int v15), (AV.int v16), (AV.int (cI v0 (v7 + 1) 1))]]), v13, v14, v15, v16) else none)
  else bif (decide ((((v8.length : Int) + 1) * 32) ≤ 140737488355328)) then go0 ((v7 + 1), (v8 ++ [[(AV.int v14), (AV.int v15), (AV.int v16), (AV.int (cI v0 (v7 + 1) 1))]]), v13, v14, v15, v16) else none) else none else none else none
  else bif (decide ((((v8.length : Int) + 1) * 32) ≤ 140737488355328)) then go0 ((v7 + 1), (v8 ++ [[(AV.int v14), (AV.int v15), (AV.int v16), (AV.int (cI v0 (v7 + 1) 1))]]), v13, v14, v15, v16) else none)) else none
  else (bif (decide (v16 = 10000001)) then go0 ((v7 + 1), v8, v13, v14, v15, v16)
  else (bif (decide (0 < (v8.length : Int))) then bif ((decide ((-9223372036854775808) ≤ ((v8.length : Int) - 1))) && (decide (((v8.length : Int) - 1) ≤ 9223372036854775807))) then bif (decide (0 ≤ ((v8.length : Int) - 1))) then bif (decide (((v8.length : Int) - 1) < (v8.length : Int))) then (bif (decide ((cI v8 ((v8.length : Int) - 1) 1) = v15)) then (bif (decide ((cI v8 ((v8.length : Int) - 1) 3) = v16)) then go0 ((v7 + 1), (List.modify v8 (((v8.length : Int) - 1)).toNat (fun r => r.set 3 (AV.int 10000001))), v13, v14, v15, v16)
  else bif (decide ((((v8.length : Int) + 1) * 32) ≤ 140737488355328)) then go0 ((v7 + 1), (v8 ++ [[(AV.int v14), (AV.int v15), (AV.int v16), (AV.int 10000001)]]), v13, v14, v15, v16) else none)
  else bif (decide ((((v8.length : Int) + 1) * 32) ≤ 140737488355328)) then go0 ((v7 + 1), (v8 ++ [[(AV.int v14), (AV.int v15), (AV.int v16), (AV.int 10000001)]]), v13, v14, v15, v16) else none) else none else none else none
  else bif (decide ((((v8.length : Int) + 1) * 32) ≤ 140737488355328)) then go0 ((v7 + 1), (v8 ++ [[(AV.int v14), (AV.int v15), (AV.int v16), (AV.int 10000001)]]), v13, v14, v15, v16) else none))) else none))
def life_Stays_4 (n : Nat) (go0 : life_Stays_s0 → Option life_Stays_a) (v0 : Lv) (v7 : Int) (v8 : Lv) (v13 v14 v15 v16 v17 : Int) : Option life_Stays_a :=
  (bif (!(decide (v17 = 0))) then some (v8, 0)
  else life_Stays_5 n go0 v0 v7 v8 v13 v14 v15 v16)
def life_Stays_3 (n : Nat) (go0 : life_Stays_s0 → Option life_Stays_a) (v0 : Lv) (v7 : Int) (v8 : Lv) (v9 v10 v11 v12 : Int) : Option life_Stays_a :=
  (bif (decide (v7 < (v0.length : Int))) then bif (decide (0 ≤ v7)) then (life_Step n v9 v10 v11 v12 (cI v0 v7 0) (cI v0 v7 1) (cI v0 v7 2)).bind fun y13 =>
  life_Stays_4 n go0 v0 v7 v8 y13.1 y13.2.1 y13.2.2.1 y13.2.2.2.1 y13.2.2.2.2 else none
  else some (v8, 0))
def life_Stays_2 (n : Nat) (v0 : Lv) (v6 : Int) : Option life_Stays_a :=
  (bif (!(decide (v6 = 0))) then some (([] : Lv), 140)
  else (iterF (fun go0 s => life_Stays_3 n go0 v0 s.1 s.2.1 s.2.2.1 s.2.2.2.1 s.2.2.2.2.1 s.2.2.2.2.2) n ((0, ([] : Lv), 0, (-1), 0, 0) : life_Stays_s0)))
def life_Stays_1 (n : Nat) (v0 : Lv) : Option life_Stays_a :=
  (life_Run n v0).bind fun y1 =>
  life_Stays_2 n v0 y1.2.2.2.2.2
def life_Stays (n : Nat) (v0 : Lv) : Option life_Stays_a := life_Stays_1 n v0
def life_Stays_t : FnT := ⟨[(false, [(.sl (.cons .int (.cons .int (.cons .int .nil))))])], (.tup (.cons (.row 66 (.cons .int (.cons .int (.cons .int (.cons .int .nil))))) (.cons .i .nil))), fun n (s : Lv) => life_Stays n s⟩
theorem life_Stays_ok : life_Stays_t.ok Try.prog 10 := FnT.ok_of (cfg := ⟨[((47, 3, 11), .inv [(.tmp 15 .int), (.cellrow 3 0 66 (.cons .int (.cons .int (.cons .int (.cons .int .nil))))), (.cell 6 0 .int), (.cell 6 1 .int), (.cell 6 2 .int), (.cell 6 3 .int)])], consD2, [], []⟩) (tab := life_Fate_T) (mt := mt0) pfit life_Fate_T_ok mt0_ok (fun s fn hf => by rw [Try.func10] at hf; cases hf; kernel_rfl) (fun n s => by kernel_rfl)
def life_Stays_T : Tab := (10, life_Stays_t) :: life_Fate_T
theorem life_Stays_T_ok : life_Stays_T.ok Try.prog := Tab.ok_cons life_Stays_ok life_Fate_T_ok
/-! dialtone/dialtonelaw14.pick -/
abbrev law14_pick_a := Int
def law14_pick_1 (n : Nat) (v0 v1 : Int) : Option law14_pick_a :=
  (bif (decide (v0 < 0)) then bif ((decide ((-9223372036854775808) ≤ (v0 + 1))) && (decide ((v0 + 1) ≤ 9223372036854775807))) then bif ((decide ((-9223372036854775808) ≤ (0 - (v0 + 1)))) && (decide ((0 - (v0 + 1)) ≤ 9223372036854775807))) then bif (!(decide (v1 = 0))) then some (Int.tmod (0 - (v0 + 1)) v1) else none else none else none
  else bif (!(decide (v1 = 0))) then some (Int.tmod v0 v1) else none)
def law14_pick (n : Nat) (v0 v1 : Int) : Option law14_pick_a := law14_pick_1 n v0 v1
def law14_pick_t : FnT := ⟨[(false, [.int]), (false, [.int])], .i, fun n (s : Int × Int) => law14_pick n s.1 s.2⟩
theorem law14_pick_ok : law14_pick_t.ok Try.prog 20 := FnT.ok_of (cfg := ⟨[], consD2, [], []⟩) (tab := life_Stays_T) (mt := mt0) pfit life_Stays_T_ok mt0_ok (fun s fn hf => by rw [Try.func20] at hf; cases hf; kernel_rfl) (fun n s => by kernel_rfl)
def law14_pick_T : Tab := (20, law14_pick_t) :: life_Stays_T
theorem law14_pick_T_ok : law14_pick_T.ok Try.prog := Tab.ok_cons law14_pick_ok life_Stays_T_ok
/-! dialtone/dialtonelaw14.few -/
abbrev law14_few_a := Lv
def law14_few_1 (n : Nat) (v0 : Lv) : Option law14_few_a :=
  bif (decide (0 ≤ (imin (v0.length : Int) 41))) then bif (decide ((imin (v0.length : Int) 41) ≤ (v0.length : Int))) then some (List.take ((imin (v0.length : Int) 41)).toNat v0) else none else none
def law14_few (n : Nat) (v0 : Lv) : Option law14_few_a := law14_few_1 n v0
def law14_few_t : FnT := ⟨[(false, [(.sl (.cons .int (.cons .int (.cons .int .nil))))])], (.row 1000054 (.cons .int (.cons .int (.cons .int .nil)))), fun n (s : Lv) => law14_few n s⟩
theorem law14_few_ok : law14_few_t.ok Try.prog 7 := FnT.ok_of (cfg := ⟨[], consD2, [], []⟩) (tab := law14_pick_T) (mt := mt0) pfit law14_pick_T_ok mt0_ok (fun s fn hf => by rw [Try.func7] at hf; cases hf; kernel_rfl) (fun n s => by kernel_rfl)
def law14_few_T : Tab := (7, law14_few_t) :: law14_pick_T
theorem law14_few_T_ok : law14_few_T.ok Try.prog := Tab.ok_cons law14_few_ok law14_pick_T_ok
end
end Go.Proofs.Ytjhakonpnopcnaa
