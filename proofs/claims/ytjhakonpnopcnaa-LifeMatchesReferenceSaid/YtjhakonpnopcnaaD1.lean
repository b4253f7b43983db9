/-
  Plain functions for functions of the program, each with its contract (printed by decomp.py).
-/
import Derived.Test.YtjhakonpnopcnaaSxP
import Derived.Test.YtjhakonpnopcnaaSx25
set_option linter.unusedSimpArgs false
set_option linter.unusedVariables false
set_option maxRecDepth 100000
namespace Go.Proofs.Ytjhakonpnopcnaa
open Go Go.Sx
noncomputable section
def consD1 : List Nat := [4, 5, 6, 7, 8, 9, 10, 11, 12, 13, 14, 15, 16, 17, 18, 19, 20, 21, 22, 23, 24, 25, 26, 31, 32, 35, 36, 40, 42, 1000006, 1000007]
def Tab0 : Tab := []
theorem Tab0_ok : Tab0.ok Try.prog := Tab.ok_nil
def mt0 : MTab := []
theorem mt0_ok : mt0.ok Try.prog := fun _ h => by cases h
/-! dialtone/dialtoneref14.pick -/
abbrev ref14_pick_a := Int
def ref14_pick_1 (n : Nat) (v0 v1 : Int) : Option ref14_pick_a :=
  (bif (decide (v0 < 0)) then bif ((decide ((-9223372036854775808) ≤ (v0 + 1))) && (decide ((v0 + 1) ≤ 9223372036854775807))) then bif ((decide ((-9223372036854775808) ≤ (0 - (v0 + 1)))) && (decide ((0 - (v0 + 1)) ≤ 9223372036854775807))) then bif (!(decide (v1 = 0))) then some (Int.tmod (0 - (v0 + 1)) v1) else none else none else none
  else bif (!(decide (v1 = 0))) then some (Int.tmod v0 v1) else none)
def ref14_pick (n : Nat) (v0 v1 : Int) : Option ref14_pick_a := ref14_pick_1 n v0 v1
def ref14_pick_t : FnT := ⟨[(false, [.int]), (false, [.int])], .i, fun n (s : Int × Int) => ref14_pick n s.1 s.2⟩
theorem ref14_pick_ok : ref14_pick_t.ok Try.prog 32 := FnT.ok_of (cfg := ⟨[], consD1, [], []⟩) (tab := Tab0) (mt := mt0) pfit Tab0_ok mt0_ok (fun s fn hf => by rw [Try.func32] at hf; cases hf; kernel_rfl) (fun n s => by kernel_rfl)
def ref14_pick_T : Tab := (32, ref14_pick_t) :: Tab0
theorem ref14_pick_T_ok : ref14_pick_T.ok Try.prog := Tab.ok_cons ref14_pick_ok Tab0_ok
/-! dialtone/dialtoneref14.Valid -/
abbrev ref14_Valid_a := Bool
def ref14_Valid_1 (n : Nat) (v0 v1 v2 v3 : Int) : Option ref14_Valid_a :=
  (bif (decide (0 ≤ v0)) then (bif (!(decide (v0 ≤ 3))) then some false
  else (bif (decide (0 ≤ v2)) then (bif (!(decide (v2 ≤ 1000))) then some false
  else (bif (decide (0 ≤ v3)) then (bif (!(decide (v3 ≤ 10000000))) then some false
  else (bif (decide (v0 = 0)) then some (decide (v1 = (-1)))
  else (bif (decide (0 ≤ v1)) then (bif (decide (v1 ≤ 63)) then some (decide (0 < v2))
  else some false)
  else some false)))
  else some false))
  else some false))
  else some false)
def ref14_Valid (n : Nat) (v0 v1 v2 v3 : Int) : Option ref14_Valid_a := ref14_Valid_1 n v0 v1 v2 v3
def ref14_Valid_t : FnT := ⟨[(true, [.int, .int, .int, .int])], .b, fun n (s : Int × Int × Int × Int) => ref14_Valid n s.1 s.2.1 s.2.2.1 s.2.2.2⟩
theorem ref14_Valid_ok : ref14_Valid_t.ok Try.prog 14 := FnT.ok_of (cfg := ⟨[], consD1, [], []⟩) (tab := ref14_pick_T) (mt := mt0) pfit ref14_pick_T_ok mt0_ok (fun s fn hf => by rw [Try.func14] at hf; cases hf; kernel_rfl) (fun n s => by kernel_rfl)
def ref14_Valid_T : Tab := (14, ref14_Valid_t) :: ref14_pick_T
theorem ref14_Valid_T_ok : ref14_Valid_T.ok Try.prog := Tab.ok_cons ref14_Valid_ok ref14_pick_T_ok
/-! dialtone/dialtoneref14.Formed -/
abbrev ref14_Formed_a := Bool
def ref14_Formed_1 (n : Nat) (v0 v1 v2 : Int) : Option ref14_Formed_a :=
  (bif (decide (1 ≤ v0)) then (bif (!(decide (v0 ≤ 7))) then some false
  else (bif (decide (0 ≤ v1)) then (bif (!(decide (v1 ≤ 10000000))) then some false
  else (bif (decide (v0 = 1)) then (bif (decide (0 ≤ v2)) then some (decide (v2 ≤ 63))
  else some false)
  else (bif (decide (v0 = 2)) then (bif (decide (0 ≤ v2)) then some (decide (v2 ≤ 63))
  else some false)
  else some (decide (v2 = (-1))))))
  else some false))
  else some false)
def ref14_Formed (n : Nat) (v0 v1 v2 : Int) : Option ref14_Formed_a := ref14_Formed_1 n v0 v1 v2
def ref14_Formed_t : FnT := ⟨[(true, [.int, .int, .int])], .b, fun n (s : Int × Int × Int) => ref14_Formed n s.1 s.2.1 s.2.2⟩
theorem ref14_Formed_ok : ref14_Formed_t.ok Try.prog 26 := FnT.ok_of (cfg := ⟨[], consD1, [], []⟩) (tab := ref14_Valid_T) (mt := mt0) pfit ref14_Valid_T_ok mt0_ok (fun s fn hf => by rw [Try.func26] at hf; cases hf; kernel_rfl) (fun n s => by kernel_rfl)
def ref14_Formed_T : Tab := (26, ref14_Formed_t) :: ref14_Valid_T
theorem ref14_Formed_T_ok : ref14_Formed_T.ok Try.prog := Tab.ok_cons ref14_Formed_ok ref14_Valid_T_ok
/-! dialtone/dialtoneref14.possible -/
abbrev ref14_possible_a := Bool
def ref14_possible_1 (n : Nat) (v0 v1 v2 v3 v4 v5 v6 : Int) : Option ref14_possible_a :=
  (bif (decide (v5 < v3)) then some false
  else (bif (decide (v4 = 1)) then (bif (decide (v0 = 0)) then some (decide (v2 < 1000))
  else some false)
  else (bif (decide (v4 = 2)) then (bif (decide (v0 = 1)) then (bif (!(decide (v1 = v6))) then some (decide (v2 < 1000))
  else some false)
  else some false)
  else (bif (decide (v4 = 3)) then some (decide (v0 = 1))
  else (bif (decide (v4 = 4)) then some (decide (v0 = 2))
  else (bif (decide (v4 = 5)) then (bif (decide (v0 = 1)) then some true
  else some (decide (v0 = 2)))
  else (bif (decide (v4 = 6)) then some (decide (v0 = 3))
  else (bif (decide (v0 = 3)) then bif ((decide ((-9223372036854775808) ≤ (v3 + 2592000))) && (decide ((v3 + 2592000) ≤ 9223372036854775807))) then some (decide ((v3 + 2592000) ≤ v5)) else none
  else some false))))))))
def ref14_possible (n : Nat) (v0 v1 v2 v3 v4 v5 v6 : Int) : Option ref14_possible_a := ref14_possible_1 n v0 v1 v2 v3 v4 v5 v6
def ref14_possible_t : FnT := ⟨[(true, [.int, .int, .int, .int]), (true, [.int, .int, .int])], .b, fun n (s : Int × Int × Int × Int × Int × Int × Int) => ref14_possible n s.1 s.2.1 s.2.2.1 s.2.2.2.1 s.2.2.2.2.1 s.2.2.2.2.2.1 s.2.2.2.2.2.2⟩
theorem ref14_possible_ok : ref14_possible_t.ok Try.prog 42 := FnT.ok_of (cfg := ⟨[], consD1, [], []⟩) (tab := ref14_Formed_T) (mt := mt0) pfit ref14_Formed_T_ok mt0_ok (fun s fn hf => by rw [Try.func42] at hf; cases hf; kernel_rfl) (fun n s => by kernel_rfl)
def ref14_possible_T : Tab := (42, ref14_possible_t) :: ref14_Formed_T
theorem ref14_possible_T_ok : ref14_possible_T.ok Try.prog := Tab.ok_cons ref14_possible_ok ref14_Formed_T_ok
/-! dialtone/dialtoneref14.Step -/
abbrev ref14_Step_a := Int × Int × Int × Int × Int
def ref14_Step_1 (n : Nat) (v0 v1 v2 v3 v4 v5 v6 : Int) : Option ref14_Step_a :=
  (ref14_Valid n v0 v1 v2 v3).bind fun y7 =>
  (bif (!y7) then some (0, 0, 0, 0, 140)
  else (ref14_Formed n v4 v5 v6).bind fun y8 =>
  (bif (!y8) then some (0, 0, 0, 0, 140)
  else (ref14_possible n v0 v1 v2 v3 v4 v5 v6).bind fun y9 =>
  (bif (!y9) then some (0, 0, 0, 0, 140)
  else (bif (decide (v4 = 1)) then bif ((decide ((-9223372036854775808) ≤ (v2 + 1))) && (decide ((v2 + 1) ≤ 9223372036854775807))) then some (1, v6, (v2 + 1), v5, 0) else none
  else (bif (decide (v4 = 2)) then bif ((decide ((-9223372036854775808) ≤ (v2 + 1))) && (decide ((v2 + 1) ≤ 9223372036854775807))) then some (1, v6, (v2 + 1), v5, 0) else none
  else (bif (decide (v4 = 3)) then some (2, v1, v2, v5, 0)
  else (bif (decide (v4 = 4)) then some (1, v1, v2, v5, 0)
  else (bif (decide (v4 = 6)) then some (1, v1, v2, v5, 0)
  else (bif (decide (v4 = 5)) then some (3, v1, v2, v5, 0)
  else some (0, (-1), v2, v5, 0))))))))))
def ref14_Step (n : Nat) (v0 v1 v2 v3 v4 v5 v6 : Int) : Option ref14_Step_a := ref14_Step_1 n v0 v1 v2 v3 v4 v5 v6
def ref14_Step_t : FnT := ⟨[(true, [.int, .int, .int, .int]), (true, [.int, .int, .int])], (.tup (.cons (.agg (.cons .i (.cons .i (.cons .i (.cons .i .nil))))) (.cons .i .nil))), fun n (s : Int × Int × Int × Int × Int × Int × Int) => ref14_Step n s.1 s.2.1 s.2.2.1 s.2.2.2.1 s.2.2.2.2.1 s.2.2.2.2.2.1 s.2.2.2.2.2.2⟩
theorem ref14_Step_ok : ref14_Step_t.ok Try.prog 24 := FnT.ok_of (cfg := ⟨[], consD1, [], []⟩) (tab := ref14_possible_T) (mt := mt0) pfit ref14_possible_T_ok mt0_ok (fun s fn hf => by rw [Try.func24] at hf; cases hf; kernel_rfl) (fun n s => by kernel_rfl)
def ref14_Step_T : Tab := (24, ref14_Step_t) :: ref14_possible_T
theorem ref14_Step_T_ok : ref14_Step_T.ok Try.prog := Tab.ok_cons ref14_Step_ok ref14_possible_T_ok
/-! dialtone/dialtoneref14.Run -/
abbrev ref14_Run_a := Int × Int × Int × Int × Int × Int
abbrev ref14_Run_s0 := Int × Int × Int × Int × Int
def ref14_Run_2 (n : Nat) (go0 : ref14_Run_s0 → Option ref14_Run_a) (v0 : Lv) (v1 v2 v3 v4 v5 : Int) : Option ref14_Run_a :=
  (bif (decide (v1 < (v0.length : Int))) then bif (decide (0 ≤ v1)) then (ref14_Step n v2 v3 v4 v5 (cI v0 v1 0) (cI v0 v1 1) (cI v0 v1 2)).bind fun y6 =>
  (bif (!(decide (y6.2.2.2.2 = 0))) then some (0, 0, 0, 0, v1, 140)
  else (bif (decide (v1 = 40)) then some (0, 0, 0, 0, v1, 140)
  else bif ((decide ((-9223372036854775808) ≤ (v1 + 1))) && (decide ((v1 + 1) ≤ 9223372036854775807))) then go0 ((v1 + 1), y6.1, y6.2.1, y6.2.2.1, y6.2.2.2.1) else none)) else none
  else some (v2, v3, v4, v5, (v0.length : Int), 0))
def ref14_Run_1 (n : Nat) (v0 : Lv) : Option ref14_Run_a :=
  (iterF (fun go0 s => ref14_Run_2 n go0 v0 s.1 s.2.1 s.2.2.1 s.2.2.2.1 s.2.2.2.2) n ((0, 0, (-1), 0, 0) : ref14_Run_s0))
def ref14_Run (n : Nat) (v0 : Lv) : Option ref14_Run_a := ref14_Run_1 n v0
def ref14_Run_t : FnT := ⟨[(false, [(.sl (.cons .int (.cons .int (.cons .int .nil))))])], (.tup (.cons (.agg (.cons .i (.cons .i (.cons .i (.cons .i .nil))))) (.cons .i (.cons .i .nil)))), fun n (s : Lv) => ref14_Run n s⟩
theorem ref14_Run_ok : ref14_Run_t.ok Try.prog 9 := FnT.ok_of (cfg := ⟨[((9, 3, 5), .inv [(.tmp 6 .int), (.cell 3 0 .int), (.cell 3 1 .int), (.cell 3 2 .int), (.cell 3 3 .int)])], consD1, [], []⟩) (tab := ref14_Step_T) (mt := mt0) pfit ref14_Step_T_ok mt0_ok (fun s fn hf => by rw [Try.func9] at hf; cases hf; kernel_rfl) (fun n s => by kernel_rfl)
def ref14_Run_T : Tab := (9, ref14_Run_t) :: ref14_Step_T
theorem ref14_Run_T_ok : ref14_Run_T.ok Try.prog := Tab.ok_cons ref14_Run_ok ref14_Step_T_ok
/-! dialtone/dialtoneref14.Is -/
abbrev ref14_Is_a := Bool
def ref14_Is_1 (n : Nat) (v0 : Lv) : Option ref14_Is_a :=
  (ref14_Run n v0).bind fun y1 =>
  some (decide (y1.2.2.2.2.2 = 0))
def ref14_Is (n : Nat) (v0 : Lv) : Option ref14_Is_a := ref14_Is_1 n v0
def ref14_Is_t : FnT := ⟨[(false, [(.sl (.cons .int (.cons .int (.cons .int .nil))))])], .b, fun n (s : Lv) => ref14_Is n s⟩
theorem ref14_Is_ok : ref14_Is_t.ok Try.prog 35 := FnT.ok_of (cfg := ⟨[], consD1, [], []⟩) (tab := ref14_Run_T) (mt := mt0) pfit ref14_Run_T_ok mt0_ok (fun s fn hf => by rw [Try.func35] at hf; cases hf; kernel_rfl) (fun n s => by kernel_rfl)
def ref14_Is_T : Tab := (35, ref14_Is_t) :: ref14_Run_T
theorem ref14_Is_T_ok : ref14_Is_T.ok Try.prog := Tab.ok_cons ref14_Is_ok ref14_Run_T_ok
/-! dialtone/dialtoneref14.at -/
abbrev ref14_at_a := Int × Int × Int × Int
abbrev ref14_at_s0 := Int × Int × Int × Int × Int
def ref14_at_2 (n : Nat) (go0 : ref14_at_s0 → Option ref14_at_a) (v0 : Lv) (v1 v2 v3 v4 v5 v6 : Int) : Option ref14_at_a :=
  (bif (decide (v2 < (v0.length : Int))) then bif (decide (0 ≤ v2)) then (bif (decide ((cI v0 v2 1) ≤ v1)) then (ref14_Step n v3 v4 v5 v6 (cI v0 v2 0) (cI v0 v2 1) (cI v0 v2 2)).bind fun y7 =>
  bif ((decide ((-9223372036854775808) ≤ (v2 + 1))) && (decide ((v2 + 1) ≤ 9223372036854775807))) then go0 ((v2 + 1), y7.1, y7.2.1, y7.2.2.1, y7.2.2.2.1) else none
  else some (v3, v4, v5, v6)) else none
  else some (v3, v4, v5, v6))
def ref14_at_1 (n : Nat) (v0 : Lv) (v1 : Int) : Option ref14_at_a :=
  (iterF (fun go0 s => ref14_at_2 n go0 v0 v1 s.1 s.2.1 s.2.2.1 s.2.2.2.1 s.2.2.2.2) n ((0, 0, (-1), 0, 0) : ref14_at_s0))
def ref14_at (n : Nat) (v0 : Lv) (v1 : Int) : Option ref14_at_a := ref14_at_1 n v0 v1
def ref14_at_t : FnT := ⟨[(false, [(.sl (.cons .int (.cons .int (.cons .int .nil))))]), (false, [.int])], (.agg (.cons .i (.cons .i (.cons .i (.cons .i .nil))))), fun n (s : Lv × Int) => ref14_at n s.1 s.2⟩
theorem ref14_at_ok : ref14_at_t.ok Try.prog 36 := FnT.ok_of (cfg := ⟨[((36, 3, 5), .inv [(.tmp 6 .int), (.cell 3 0 .int), (.cell 3 1 .int), (.cell 3 2 .int), (.cell 3 3 .int)])], consD1, [], []⟩) (tab := ref14_Is_T) (mt := mt0) pfit ref14_Is_T_ok mt0_ok (fun s fn hf => by rw [Try.func36] at hf; cases hf; kernel_rfl) (fun n s => by kernel_rfl)
def ref14_at_T : Tab := (36, ref14_at_t) :: ref14_Is_T
theorem ref14_at_T_ok : ref14_at_T.ok Try.prog := Tab.ok_cons ref14_at_ok ref14_Is_T_ok
/-! dialtone/dialtoneref14.At -/
abbrev ref14_At_a := Int × Int × Int × Int × Int
def ref14_At_1 (n : Nat) (v0 : Lv) (v1 : Int) : Option ref14_At_a :=
  (ref14_Is n v0).bind fun y2 =>
  (bif (!y2) then some (0, 0, 0, 0, 140)
  else (bif (decide (0 ≤ v1)) then (bif (!(decide (v1 ≤ 10000000))) then some (0, 0, 0, 0, 140)
  else (ref14_at n v0 v1).bind fun y3 =>
  some (y3.1, y3.2.1, y3.2.2.1, y3.2.2.2, 0))
  else some (0, 0, 0, 0, 140)))
def ref14_At (n : Nat) (v0 : Lv) (v1 : Int) : Option ref14_At_a := ref14_At_1 n v0 v1
def ref14_At_t : FnT := ⟨[(false, [(.sl (.cons .int (.cons .int (.cons .int .nil))))]), (false, [.int])], (.tup (.cons (.agg (.cons .i (.cons .i (.cons .i (.cons .i .nil))))) (.cons .i .nil))), fun n (s : Lv × Int) => ref14_At n s.1 s.2⟩
theorem ref14_At_ok : ref14_At_t.ok Try.prog 17 := FnT.ok_of (cfg := ⟨[], consD1, [], []⟩) (tab := ref14_at_T) (mt := mt0) pfit ref14_at_T_ok mt0_ok (fun s fn hf => by rw [Try.func17] at hf; cases hf; kernel_rfl) (fun n s => by kernel_rfl)
def ref14_At_T : Tab := (17, ref14_At_t) :: ref14_at_T
theorem ref14_At_T_ok : ref14_At_T.ok Try.prog := Tab.ok_cons ref14_At_ok ref14_at_T_ok
/-! dialtone/dialtoneref14.After -/
abbrev ref14_After_a := Int × Int × Int
def ref14_After_2 (n : Nat) (v0 v1 v3 v4 v5 v6 : Int) : Option ref14_After_a :=
  (bif (decide (v0 = 2)) then (ref14_pick n v4 2).bind fun y7 =>
  bif (decide (0 ≤ y7)) then bif (decide (y7 < 2)) then (ref14_pick n v5 6).bind fun y8 =>
  (bif (decide ((cI ((([] : Lv) ++ [[(AV.int 4)]]) ++ [[(AV.int 5)]]) y7 0) = 7)) then bif ((decide ((-9223372036854775808) ≤ (y8 + 2592000))) && (decide ((y8 + 2592000) ≤ 9223372036854775807))) then bif ((decide ((-9223372036854775808) ≤ (v3 + (y8 + 2592000)))) && (decide ((v3 + (y8 + 2592000)) ≤ 9223372036854775807))) then some ((cI ((([] : Lv) ++ [[(AV.int 4)]]) ++ [[(AV.int 5)]]) y7 0), (imin (v3 + (y8 + 2592000)) 10000000), (-1)) else none else none
  else bif ((decide ((-9223372036854775808) ≤ (v3 + y8))) && (decide ((v3 + y8) ≤ 9223372036854775807))) then (bif (decide ((cI ((([] : Lv) ++ [[(AV.int 4)]]) ++ [[(AV.int 5)]]) y7 0) = 1)) then (ref14_pick n v6 5).bind fun y9 =>
  some ((cI ((([] : Lv) ++ [[(AV.int 4)]]) ++ [[(AV.int 5)]]) y7 0), (imin (v3 + y8) 10000000), y9)
  else (bif (decide ((cI ((([] : Lv) ++ [[(AV.int 4)]]) ++ [[(AV.int 5)]]) y7 0) = 2)) then (ref14_pick n v6 5).bind fun y9 =>
  (bif (decide (y9 = v1)) then bif ((decide ((-9223372036854775808) ≤ (y9 + 1))) && (decide ((y9 + 1) ≤ 9223372036854775807))) then some ((cI ((([] : Lv) ++ [[(AV.int 4)]]) ++ [[(AV.int 5)]]) y7 0), (imin (v3 + y8) 10000000), (y9 + 1)) else none
  else some ((cI ((([] : Lv) ++ [[(AV.int 4)]]) ++ [[(AV.int 5)]]) y7 0), (imin (v3 + y8) 10000000), y9))
  else some ((cI ((([] : Lv) ++ [[(AV.int 4)]]) ++ [[(AV.int 5)]]) y7 0), (imin (v3 + y8) 10000000), (-1)))) else none) else none else none
  else (bif (decide (v0 = 3)) then (ref14_pick n v4 3).bind fun y7 =>
  bif (decide (0 ≤ y7)) then bif (decide (y7 < 3)) then (ref14_pick n v5 6).bind fun y8 =>
  (bif (decide ((cI (((([] : Lv) ++ [[(AV.int 7)]]) ++ [[(AV.int 6)]]) ++ [[(AV.int 7)]]) y7 0) = 7)) then bif ((decide ((-9223372036854775808) ≤ (y8 + 2592000))) && (decide ((y8 + 2592000) ≤ 9223372036854775807))) then bif ((decide ((-9223372036854775808) ≤ (v3 + (y8 + 2592000)))) && (decide ((v3 + (y8 + 2592000)) ≤ 9223372036854775807))) then some ((cI (((([] : Lv) ++ [[(AV.int 7)]]) ++ [[(AV.int 6)]]) ++ [[(AV.int 7)]]) y7 0), (imin (v3 + (y8 + 2592000)) 10000000), (-1)) else none else none
  else bif ((decide ((-9223372036854775808) ≤ (v3 + y8))) && (decide ((v3 + y8) ≤ 9223372036854775807))) then (bif (decide ((cI (((([] : Lv) ++ [[(AV.int 7)]]) ++ [[(AV.int 6)]]) ++ [[(AV.int 7)]]) y7 0) = 1)) then (ref14_pick n v6 5).bind fun y9 =>
  some ((cI (((([] : Lv) ++ [[(AV.int 7)]]) ++ [[(AV.int 6)]]) ++ [[(AV.int 7)]]) y7 0), (imin (v3 + y8) 10000000), y9)
  else (bif (decide ((cI (((([] : Lv) ++ [[(AV.int 7)]]) ++ [[(AV.int 6)]]) ++ [[(AV.int 7)]]) y7 0) = 2)) then (ref14_pick n v6 5).bind fun y9 =>
  (bif (decide (y9 = v1)) then bif ((decide ((-9223372036854775808) ≤ (y9 + 1))) && (decide ((y9 + 1) ≤ 9223372036854775807))) then some ((cI (((([] : Lv) ++ [[(AV.int 7)]]) ++ [[(AV.int 6)]]) ++ [[(AV.int 7)]]) y7 0), (imin (v3 + y8) 10000000), (y9 + 1)) else none
  else some ((cI (((([] : Lv) ++ [[(AV.int 7)]]) ++ [[(AV.int 6)]]) ++ [[(AV.int 7)]]) y7 0), (imin (v3 + y8) 10000000), y9))
  else some ((cI (((([] : Lv) ++ [[(AV.int 7)]]) ++ [[(AV.int 6)]]) ++ [[(AV.int 7)]]) y7 0), (imin (v3 + y8) 10000000), (-1)))) else none) else none else none
  else (ref14_pick n v4 1).bind fun y7 =>
  bif (decide (0 ≤ y7)) then bif (decide (y7 < 1)) then (ref14_pick n v5 6).bind fun y8 =>
  (bif (decide ((cI (([] : Lv) ++ [[(AV.int 1)]]) y7 0) = 7)) then bif ((decide ((-9223372036854775808) ≤ (y8 + 2592000))) && (decide ((y8 + 2592000) ≤ 9223372036854775807))) then bif ((decide ((-9223372036854775808) ≤ (v3 + (y8 + 2592000)))) && (decide ((v3 + (y8 + 2592000)) ≤ 9223372036854775807))) then some ((cI (([] : Lv) ++ [[(AV.int 1)]]) y7 0), (imin (v3 + (y8 + 2592000)) 10000000), (-1)) else none else none
  else bif ((decide ((-9223372036854775808) ≤ (v3 + y8))) && (decide ((v3 + y8) ≤ 9223372036854775807))) then (bif (decide ((cI (([] : Lv) ++ [[(AV.int 1)]]) y7 0) = 1)) then (ref14_pick n v6 5).bind fun y9 =>
  some ((cI (([] : Lv) ++ [[(AV.int 1)]]) y7 0), (imin (v3 + y8) 10000000), y9)
  else (bif (decide ((cI (([] : Lv) ++ [[(AV.int 1)]]) y7 0) = 2)) then (ref14_pick n v6 5).bind fun y9 =>
  (bif (decide (y9 = v1)) then bif ((decide ((-9223372036854775808) ≤ (y9 + 1))) && (decide ((y9 + 1) ≤ 9223372036854775807))) then some ((cI (([] : Lv) ++ [[(AV.int 1)]]) y7 0), (imin (v3 + y8) 10000000), (y9 + 1)) else none
  else some ((cI (([] : Lv) ++ [[(AV.int 1)]]) y7 0), (imin (v3 + y8) 10000000), y9))
  else some ((cI (([] : Lv) ++ [[(AV.int 1)]]) y7 0), (imin (v3 + y8) 10000000), (-1)))) else none) else none else none))
def ref14_After_1 (n : Nat) (v0 v1 v3 v4 v5 v6 : Int) : Option ref14_After_a :=
  (bif (decide (v0 = 1)) then (ref14_pick n v4 5).bind fun y7 =>
  bif (decide (0 ≤ y7)) then bif (decide (y7 < 5)) then (ref14_pick n v5 6).bind fun y8 =>
  (bif (decide ((cI (((((([] : Lv) ++ [[(AV.int 2)]]) ++ [[(AV.int 3)]]) ++ [[(AV.int 5)]]) ++ [[(AV.int 3)]]) ++ [[(AV.int 5)]]) y7 0) = 7)) then bif ((decide ((-9223372036854775808) ≤ (y8 + 2592000))) && (decide ((y8 + 2592000) ≤ 9223372036854775807))) then bif ((decide ((-9223372036854775808) ≤ (v3 + (y8 + 2592000)))) && (decide ((v3 + (y8 + 2592000)) ≤ 9223372036854775807))) then some ((cI (((((([] : Lv) ++ [[(AV.int 2)]]) ++ [[(AV.int 3)]]) ++ [[(AV.int 5)]]) ++ [[(AV.int 3)]]) ++ [[(AV.int 5)]]) y7 0), (imin (v3 + (y8 + 2592000)) 10000000), (-1)) else none else none
  else bif ((decide ((-9223372036854775808) ≤ (v3 + y8))) && (decide ((v3 + y8) ≤ 9223372036854775807))) then (bif (decide ((cI (((((([] : Lv) ++ [[(AV.int 2)]]) ++ [[(AV.int 3)]]) ++ [[(AV.int 5)]]) ++ [[(AV.int 3)]]) ++ [[(AV.int 5)]]) y7 0) = 1)) then (ref14_pick n v6 5).bind fun y9 =>
  some ((cI (((((([] : Lv) ++ [[(AV.int 2)]]) ++ [[(AV.int 3)]]) ++ [[(AV.int 5)]]) ++ [[(AV.int 3)]]) ++ [[(AV.int 5)]]) y7 0), (imin (v3 + y8) 10000000), y9)
  else (bif (decide ((cI (((((([] : Lv) ++ [[(AV.int 2)]]) ++ [[(AV.int 3)]]) ++ [[(AV.int 5)]]) ++ [[(AV.int 3)]]) ++ [[(AV.int 5)]]) y7 0) = 2)) then (ref14_pick n v6 5).bind fun y9 =>
  (bif (decide (y9 = v1)) then bif ((decide ((-9223372036854775808) ≤ (y9 + 1))) && (decide ((y9 + 1) ≤ 9223372036854775807))) then some ((cI (((((([] : Lv) ++ [[(AV.int 2)]]) ++ [[(AV.int 3)]]) ++ [[(AV.int 5)]]) ++ [[(AV.int 3)]]) ++ [[(AV.int 5)]]) y7 0), (imin (v3 + y8) 10000000), (y9 + 1)) else none
  else some ((cI (((((([] : Lv) ++ [[(AV.int 2)]]) ++ [[(AV.int 3)]]) ++ [[(AV.int 5)]]) ++ [[(AV.int 3)]]) ++ [[(AV.int 5)]]) y7 0), (imin (v3 + y8) 10000000), y9))
  else some ((cI (((((([] : Lv) ++ [[(AV.int 2)]]) ++ [[(AV.int 3)]]) ++ [[(AV.int 5)]]) ++ [[(AV.int 3)]]) ++ [[(AV.int 5)]]) y7 0), (imin (v3 + y8) 10000000), (-1)))) else none) else none else none
  else ref14_After_2 n v0 v1 v3 v4 v5 v6)
def ref14_After (n : Nat) (v0 v1 v2 v3 v4 v5 v6 : Int) : Option ref14_After_a := ref14_After_1 n v0 v1 v3 v4 v5 v6
def ref14_After_t : FnT := ⟨[(true, [.int, .int, .int, .int]), (true, [.int, .int, .int])], (.agg (.cons .i (.cons .i (.cons .i .nil)))), fun n (s : Int × Int × Int × Int × Int × Int × Int) => ref14_After n s.1 s.2.1 s.2.2.1 s.2.2.2.1 s.2.2.2.2.1 s.2.2.2.2.2.1 s.2.2.2.2.2.2⟩
theorem ref14_After_ok : ref14_After_t.ok Try.prog 31 := FnT.ok_of (cfg := ⟨[], consD1, [], []⟩) (tab := ref14_At_T) (mt := mt0) pfit ref14_At_T_ok mt0_ok (fun s fn hf => by rw [Try.func31] at hf; cases hf; kernel_rfl) (fun n s => by kernel_rfl)
def ref14_After_T : Tab := (31, ref14_After_t) :: ref14_At_T
theorem ref14_After_T_ok : ref14_After_T.ok Try.prog := Tab.ok_cons ref14_After_ok ref14_At_T_ok
/-! dialtone/dialtoneref14.Made -/
abbrev ref14_Made_a := Lv
abbrev ref14_Made_s0 := Lv × Int × Int × Int × Int × Int
def ref14_Made_2 (n : Nat) (go0 : ref14_Made_s0 → Option ref14_Made_a) (v0 v1 : Lv) (v2 v3 v4 v5 v6 : Int) : Option ref14_Made_a :=
  (bif (decide (v2 < (v0.length : Int))) then (bif (decide (v2 < 16)) then bif (decide (0 ≤ v2)) then (ref14_After n v3 v4 v5 v6 (cI v0 v2 0) (cI v0 v2 1) (cI v0 v2 2)).bind fun y7 =>
  (ref14_Step n v3 v4 v5 v6 y7.1 y7.2.1 y7.2.2).bind fun y10 =>
  (bif (decide (y10.2.2.2.2 = 0)) then bif (decide ((((v1.length : Int) + 1) * 24) ≤ 140737488355328)) then bif ((decide ((-9223372036854775808) ≤ (v2 + 1))) && (decide ((v2 + 1) ≤ 9223372036854775807))) then go0 ((v1 ++ [[(AV.int y7.1), (AV.int y7.2.1), (AV.int y7.2.2)]]), (v2 + 1), y10.1, y10.2.1, y10.2.2.1, y10.2.2.2.1) else none else none
  else bif ((decide ((-9223372036854775808) ≤ (v2 + 1))) && (decide ((v2 + 1) ≤ 9223372036854775807))) then go0 (v1, (v2 + 1), v3, v4, v5, v6) else none) else none
  else some v1)
  else some v1)
def ref14_Made_1 (n : Nat) (v0 : Lv) : Option ref14_Made_a :=
  (iterF (fun go0 s => ref14_Made_2 n go0 v0 s.1 s.2.1 s.2.2.1 s.2.2.2.1 s.2.2.2.2.1 s.2.2.2.2.2) n ((([] : Lv), 0, 0, (-1), 0, 0) : ref14_Made_s0))
def ref14_Made (n : Nat) (v0 : Lv) : Option ref14_Made_a := ref14_Made_1 n v0
def ref14_Made_t : FnT := ⟨[(false, [(.sl (.cons .int (.cons .int (.cons .int .nil))))])], (.row 54 (.cons .int (.cons .int (.cons .int .nil)))), fun n (s : Lv) => ref14_Made n s⟩
theorem ref14_Made_ok : ref14_Made_t.ok Try.prog 5 := FnT.ok_of (cfg := ⟨[((5, 4, 4), .inv [(.tmprow 4 54 (.cons .int (.cons .int (.cons .int .nil)))), (.tmp 5 .int), (.cell 2 0 .int), (.cell 2 1 .int), (.cell 2 2 .int), (.cell 2 3 .int)])], consD1, [], []⟩) (tab := ref14_After_T) (mt := mt0) pfit ref14_After_T_ok mt0_ok (fun s fn hf => by rw [Try.func5] at hf; cases hf; kernel_rfl) (fun n s => by kernel_rfl)
def ref14_Made_T : Tab := (5, ref14_Made_t) :: ref14_After_T
theorem ref14_Made_T_ok : ref14_Made_T.ok Try.prog := Tab.ok_cons ref14_Made_ok ref14_After_T_ok
/-! dialtone/life.Valid -/
abbrev life_Valid_a := Bool
def life_Valid_1 (n : Nat) (v0 v1 v2 v3 : Int) : Option life_Valid_a :=
  (bif (decide (0 ≤ v0)) then (bif (!(decide (v0 ≤ 3))) then some false
  else (bif (decide (0 ≤ v2)) then (bif (!(decide (v2 ≤ 1000))) then some false
  else (bif (decide (0 ≤ v3)) then (bif (!(decide (v3 ≤ 10000000))) then some false
  else (bif (decide (v0 = 0)) then some (decide (v1 = (-1)))
  else (bif (decide (0 ≤ v1)) then (bif (decide (v1 ≤ 63)) then some (decide (1 ≤ v2))
  else some false)
  else some false)))
  else some false))
  else some false))
  else some false)
def life_Valid (n : Nat) (v0 v1 v2 v3 : Int) : Option life_Valid_a := life_Valid_1 n v0 v1 v2 v3
def life_Valid_t : FnT := ⟨[(true, [.int, .int, .int, .int])], .b, fun n (s : Int × Int × Int × Int) => life_Valid n s.1 s.2.1 s.2.2.1 s.2.2.2⟩
theorem life_Valid_ok : life_Valid_t.ok Try.prog 13 := FnT.ok_of (cfg := ⟨[], consD1, [], []⟩) (tab := ref14_Made_T) (mt := mt0) pfit ref14_Made_T_ok mt0_ok (fun s fn hf => by rw [Try.func13] at hf; cases hf; kernel_rfl) (fun n s => by kernel_rfl)
def life_Valid_T : Tab := (13, life_Valid_t) :: ref14_Made_T
theorem life_Valid_T_ok : life_Valid_T.ok Try.prog := Tab.ok_cons life_Valid_ok ref14_Made_T_ok
/-! dialtone/life.Formed -/
abbrev life_Formed_a := Bool
def life_Formed_1 (n : Nat) (v0 v1 v2 : Int) : Option life_Formed_a :=
  (bif (decide (1 ≤ v0)) then (bif (!(decide (v0 ≤ 7))) then some false
  else (bif (decide (0 ≤ v1)) then (bif (!(decide (v1 ≤ 10000000))) then some false
  else bif (decide (0 ≤ v0)) then bif (decide (v0 < 8)) then (bif (cB ((((((((([] : Lv) ++ [[(AV.int 0), (AV.int 0), (AV.bool false)]]) ++ [[(AV.int 1), (AV.int 1), (AV.bool true)]]) ++ [[(AV.int 2), (AV.int 1), (AV.bool true)]]) ++ [[(AV.int 2), (AV.int 2), (AV.bool false)]]) ++ [[(AV.int 4), (AV.int 1), (AV.bool false)]]) ++ [[(AV.int 6), (AV.int 3), (AV.bool false)]]) ++ [[(AV.int 8), (AV.int 1), (AV.bool false)]]) ++ [[(AV.int 8), (AV.int 0), (AV.bool false)]]) v0 2) then (bif (decide (0 ≤ v2)) then some (decide (v2 ≤ 63))
  else some false)
  else some (decide (v2 = (-1)))) else none else none)
  else some false))
  else some false)
def life_Formed (n : Nat) (v0 v1 v2 : Int) : Option life_Formed_a := life_Formed_1 n v0 v1 v2
def life_Formed_t : FnT := ⟨[(true, [.int, .int, .int])], .b, fun n (s : Int × Int × Int) => life_Formed n s.1 s.2.1 s.2.2⟩
theorem life_Formed_ok : life_Formed_t.ok Try.prog 25 := FnT.ok_of (cfg := ⟨[], consD1, [], []⟩) (tab := life_Valid_T) (mt := mt0) pfit life_Valid_T_ok mt0_ok (fun s fn hf => by rw [Try.func25] at hf; cases hf; kernel_rfl) (fun n s => by kernel_rfl)
def life_Formed_T : Tab := (25, life_Formed_t) :: life_Valid_T
theorem life_Formed_T_ok : life_Formed_T.ok Try.prog := Tab.ok_cons life_Formed_ok life_Valid_T_ok
/-! dialtone/life.Step -/
abbrev life_Step_a := Int × Int × Int × Int × Int
def life_Step_6 (n : Nat) (v1 v2 v3 v4 v5 v6 : Int) : Option life_Step_a :=
  (bif (cB ((((((((([] : Lv) ++ [[(AV.int 0), (AV.int 0), (AV.bool false)]]) ++ [[(AV.int 1), (AV.int 1), (AV.bool true)]]) ++ [[(AV.int 2), (AV.int 1), (AV.bool true)]]) ++ [[(AV.int 2), (AV.int 2), (AV.bool false)]]) ++ [[(AV.int 4), (AV.int 1), (AV.bool false)]]) ++ [[(AV.int 6), (AV.int 3), (AV.bool false)]]) ++ [[(AV.int 8), (AV.int 1), (AV.bool false)]]) ++ [[(AV.int 8), (AV.int 0), (AV.bool false)]]) v4 2) then (bif (decide (v2 = 1000)) then some (0, 0, 0, 0, 140)
  else (bif (decide (v1 = v6)) then some (0, 0, 0, 0, 140)
  else (bif (decide (v4 = 7)) then bif ((decide ((-9223372036854775808) ≤ (v5 - v3))) && (decide ((v5 - v3) ≤ 9223372036854775807))) then (bif (decide ((v5 - v3) < 2592000)) then some (0, 0, 0, 0, 140)
  else bif ((decide ((-9223372036854775808) ≤ (v2 + 1))) && (decide ((v2 + 1) ≤ 9223372036854775807))) then (bif (decide ((cI ((((((((([] : Lv) ++ [[(AV.int 0), (AV.int 0), (AV.bool false)]]) ++ [[(AV.int 1), (AV.int 1), (AV.bool true)]]) ++ [[(AV.int 2), (AV.int 1), (AV.bool true)]]) ++ [[(AV.int 2), (AV.int 2), (AV.bool false)]]) ++ [[(AV.int 4), (AV.int 1), (AV.bool false)]]) ++ [[(AV.int 6), (AV.int 3), (AV.bool false)]]) ++ [[(AV.int 8), (AV.int 1), (AV.bool false)]]) ++ [[(AV.int 8), (AV.int 0), (AV.bool false)]]) v4 1) = 0)) then some ((cI ((((((((([] : Lv) ++ [[(AV.int 0), (AV.int 0), (AV.bool false)]]) ++ [[(AV.int 1), (AV.int 1), (AV.bool true)]]) ++ [[(AV.int 2), (AV.int 1), (AV.bool true)]]) ++ [[(AV.int 2), (AV.int 2), (AV.bool false)]]) ++ [[(AV.int 4), (AV.int 1), (AV.bool false)]]) ++ [[(AV.int 6), (AV.int 3), (AV.bool false)]]) ++ [[(AV.int 8), (AV.int 1), (AV.bool false)]]) ++ [[(AV.int 8), (AV.int 0), (AV.bool false)]]) v4 1), (-1), (v2 + 1), v5, 0)
  else some ((cI ((((((((([] : Lv) ++ [[(AV.int 0), (AV.int 0), (AV.bool false)]]) ++ [[(AV.int 1), (AV.int 1), (AV.bool true)]]) ++ [[(AV.int 2), (AV.int 1), (AV.bool true)]]) ++ [[(AV.int 2), (AV.int 2), (AV.bool false)]]) ++ [[(AV.int 4), (AV.int 1), (AV.bool false)]]) ++ [[(AV.int 6), (AV.int 3), (AV.bool false)]]) ++ [[(AV.int 8), (AV.int 1), (AV.bool false)]]) ++ [[(AV.int 8), (AV.int 0), (AV.bool false)]]) v4 1), v6, (v2 + 1), v5, 0)) else none) else none
  else bif ((decide ((-9223372036854775808) ≤ (v2 + 1))) && (decide ((v2 + 1) ≤ 9223372036854775807))) then (bif (decide ((cI ((((((((([] : Lv) ++ [[(AV.int 0), (AV.int 0), (AV.bool false)]]) ++ [[(AV.int 1), (AV.int 1), (AV.bool true)]]) ++ [[(AV.int 2), (AV.int 1), (AV.bool true)]]) ++ [[(AV.int 2), (AV.int 2), (AV.bool false)]]) ++ [[(AV.int 4), (AV.int 1), (AV.bool false)]]) ++ [[(AV.int 6), (AV.int 3), (AV.bool false)]]) ++ [[(AV.int 8), (AV.int 1), (AV.bool false)]]) ++ [[(AV.int 8), (AV.int 0), (AV.bool false)]]) v4 1) = 0)) then some ((cI ((((((((([] : Lv) ++ [[(AV.int 0), (AV.int 0), (AV.bool false)]]) ++ [[(AV.int 1), (AV.int 1), (AV.bool true)]]) ++ [[(AV.int 2), (AV.int 1), (AV.bool true)]]) ++ [[(AV.int 2), (AV.int 2), (AV.bool false)]]) ++ [[(AV.int 4), (AV.int 1), (AV.bool false)]]) ++ [[(AV.int 6), (AV.int 3), (AV.bool false)]]) ++ [[(AV.int 8), (AV.int 1), (AV.bool false)]]) ++ [[(AV.int 8), (AV.int 0), (AV.bool false)]]) v4 1), (-1), (v2 + 1), v5, 0)
  else some ((cI ((((((((([] : Lv) ++ [[(AV.int 0), (AV.int 0), (AV.bool false)]]) ++ [[(AV.int 1), (AV.int 1), (AV.bool true)]]) ++ [[(AV.int 2), (AV.int 1), (AV.bool true)]]) ++ [[(AV.int 2), (AV.int 2), (AV.bool false)]]) ++ [[(AV.int 4), (AV.int 1), (AV.bool false)]]) ++ [[(AV.int 6), (AV.int 3), (AV.bool false)]]) ++ [[(AV.int 8), (AV.int 1), (AV.bool false)]]) ++ [[(AV.int 8), (AV.int 0), (AV.bool false)]]) v4 1), v6, (v2 + 1), v5, 0)) else none)))
  else (bif (decide (v4 = 7)) then bif ((decide ((-9223372036854775808) ≤ (v5 - v3))) && (decide ((v5 - v3) ≤ 9223372036854775807))) then (bif (decide ((v5 - v3) < 2592000)) then some (0, 0, 0, 0, 140)
  else (bif (decide ((cI ((((((((([] : Lv) ++ [[(AV.int 0), (AV.int 0), (AV.bool false)]]) ++ [[(AV.int 1), (AV.int 1), (AV.bool true)]]) ++ [[(AV.int 2), (AV.int 1), (AV.bool true)]]) ++ [[(AV.int 2), (AV.int 2), (AV.bool false)]]) ++ [[(AV.int 4), (AV.int 1), (AV.bool false)]]) ++ [[(AV.int 6), (AV.int 3), (AV.bool false)]]) ++ [[(AV.int 8), (AV.int 1), (AV.bool false)]]) ++ [[(AV.int 8), (AV.int 0), (AV.bool false)]]) v4 1) = 0)) then some ((cI ((((((((([] : Lv) ++ [[(AV.int 0), (AV.int 0), (AV.bool false)]]) ++ [[(AV.int 1), (AV.int 1), (AV.bool true)]]) ++ [[(AV.int 2), (AV.int 1), (AV.bool true)]]) ++ [[(AV.int 2), (AV.int 2), (AV.bool false)]]) ++ [[(AV.int 4), (AV.int 1), (AV.bool false)]]) ++ [[(AV.int 6), (AV.int 3), (AV.bool false)]]) ++ [[(AV.int 8), (AV.int 1), (AV.bool false)]]) ++ [[(AV.int 8), (AV.int 0), (AV.bool false)]]) v4 1), (-1), v2, v5, 0)
  else some ((cI ((((((((([] : Lv) ++ [[(AV.int 0), (AV.int 0), (AV.bool false)]]) ++ [[(AV.int 1), (AV.int 1), (AV.bool true)]]) ++ [[(AV.int 2), (AV.int 1), (AV.bool true)]]) ++ [[(AV.int 2), (AV.int 2), (AV.bool false)]]) ++ [[(AV.int 4), (AV.int 1), (AV.bool false)]]) ++ [[(AV.int 6), (AV.int 3), (AV.bool false)]]) ++ [[(AV.int 8), (AV.int 1), (AV.bool false)]]) ++ [[(AV.int 8), (AV.int 0), (AV.bool false)]]) v4 1), v1, v2, v5, 0))) else none
  else (bif (decide ((cI ((((((((([] : Lv) ++ [[(AV.int 0), (AV.int 0), (AV.bool false)]]) ++ [[(AV.int 1), (AV.int 1), (AV.bool true)]]) ++ [[(AV.int 2), (AV.int 1), (AV.bool true)]]) ++ [[(AV.int 2), (AV.int 2), (AV.bool false)]]) ++ [[(AV.int 4), (AV.int 1), (AV.bool false)]]) ++ [[(AV.int 6), (AV.int 3), (AV.bool false)]]) ++ [[(AV.int 8), (AV.int 1), (AV.bool false)]]) ++ [[(AV.int 8), (AV.int 0), (AV.bool false)]]) v4 1) = 0)) then some ((cI ((((((((([] : Lv) ++ [[(AV.int 0), (AV.int 0), (AV.bool false)]]) ++ [[(AV.int 1), (AV.int 1), (AV.bool true)]]) ++ [[(AV.int 2), (AV.int 1), (AV.bool true)]]) ++ [[(AV.int 2), (AV.int 2), (AV.bool false)]]) ++ [[(AV.int 4), (AV.int 1), (AV.bool false)]]) ++ [[(AV.int 6), (AV.int 3), (AV.bool false)]]) ++ [[(AV.int 8), (AV.int 1), (AV.bool false)]]) ++ [[(AV.int 8), (AV.int 0), (AV.bool false)]]) v4 1), (-1), v2, v5, 0)
  else some ((cI ((((((((([] : Lv) ++ [[(AV.int 0), (AV.int 0), (AV.bool false)]]) ++ [[(AV.int 1), (AV.int 1), (AV.bool true)]]) ++ [[(AV.int 2), (AV.int 1), (AV.bool true)]]) ++ [[(AV.int 2), (AV.int 2), (AV.bool false)]]) ++ [[(AV.int 4), (AV.int 1), (AV.bool false)]]) ++ [[(AV.int 6), (AV.int 3), (AV.bool false)]]) ++ [[(AV.int 8), (AV.int 1), (AV.bool false)]]) ++ [[(AV.int 8), (AV.int 0), (AV.bool false)]]) v4 1), v1, v2, v5, 0))))
def life_Step_5 (n : Nat) (v0 v1 v2 v3 v4 v5 v6 : Int) : Option life_Step_a :=
  (bif (decide ((IOp.f .and (IOp.f .shr (cI ((((((((([] : Lv) ++ [[(AV.int 0), (AV.int 0), (AV.bool false)]]) ++ [[(AV.int 1), (AV.int 1), (AV.bool true)]]) ++ [[(AV.int 2), (AV.int 1), (AV.bool true)]]) ++ [[(AV.int 2), (AV.int 2), (AV.bool false)]]) ++ [[(AV.int 4), (AV.int 1), (AV.bool false)]]) ++ [[(AV.int 6), (AV.int 3), (AV.bool false)]]) ++ [[(AV.int 8), (AV.int 1), (AV.bool false)]]) ++ [[(AV.int 8), (AV.int 0), (AV.bool false)]]) v4 0) v0) 1) = 0)) then some (0, 0, 0, 0, 140)
  else life_Step_6 n v1 v2 v3 v4 v5 v6)
def life_Step_4 (n : Nat) (v0 v1 v2 v3 v4 v5 v6 : Int) : Option life_Step_a :=
  (bif (decide (v5 < v3)) then some (0, 0, 0, 0, 140)
  else bif (decide (0 ≤ v4)) then bif (decide (v4 < 8)) then bif (decide (0 ≤ v0)) then life_Step_5 n v0 v1 v2 v3 v4 v5 v6 else none else none else none)
def life_Step_3 (n : Nat) (v0 v1 v2 v3 v4 v5 v6 : Int) (v8 : Bool) : Option life_Step_a :=
  (bif (!v8) then some (0, 0, 0, 0, 140)
  else life_Step_4 n v0 v1 v2 v3 v4 v5 v6)
def life_Step_2 (n : Nat) (v0 v1 v2 v3 v4 v5 v6 : Int) (v7 : Bool) : Option life_Step_a :=
  (bif (!v7) then some (0, 0, 0, 0, 140)
  else (life_Formed n v4 v5 v6).bind fun y8 =>
  life_Step_3 n v0 v1 v2 v3 v4 v5 v6 y8)
def life_Step_1 (n : Nat) (v0 v1 v2 v3 v4 v5 v6 : Int) : Option life_Step_a :=
  (life_Valid n v0 v1 v2 v3).bind fun y7 =>
  life_Step_2 n v0 v1 v2 v3 v4 v5 v6 y7
def life_Step (n : Nat) (v0 v1 v2 v3 v4 v5 v6 : Int) : Option life_Step_a := life_Step_1 n v0 v1 v2 v3 v4 v5 v6
def life_Step_t : FnT := ⟨[(true, [.int, .int, .int, .int]), (true, [.int, .int, .int])], (.tup (.cons (.agg (.cons .i (.cons .i (.cons .i (.cons .i .nil))))) (.cons .i .nil))), fun n (s : Int × Int × Int × Int × Int × Int × Int) => life_Step n s.1 s.2.1 s.2.2.1 s.2.2.2.1 s.2.2.2.2.1 s.2.2.2.2.2.1 s.2.2.2.2.2.2⟩
theorem life_Step_ok : life_Step_t.ok Try.prog 23 := FnT.ok_of (cfg := ⟨[], consD1, [], []⟩) (tab := life_Formed_T) (mt := mt0) pfit life_Formed_T_ok mt0_ok (fun s fn hf => by rw [Try.func23] at hf; cases hf; kernel_rfl) (fun n s => by kernel_rfl)
def life_Step_T : Tab := (23, life_Step_t) :: life_Formed_T
theorem life_Step_T_ok : life_Step_T.ok Try.prog := Tab.ok_cons life_Step_ok life_Formed_T_ok
/-! dialtone/life.Run -/
abbrev life_Run_a := Int × Int × Int × Int × Int × Int
abbrev life_Run_s0 := Int × Int × Int × Int × Int × Int × Int × Int × Int × Int
def life_Run_2 (n : Nat) (go0 : life_Run_s0 → Option life_Run_a) (v0 : Lv) (v1 v2 v3 v4 v5 v6 v7 v8 v9 v10 : Int) : Option life_Run_a :=
  (bif (decide (v1 < ((List.take ((imin (v0.length : Int) 40)).toNat v0).length : Int))) then bif (decide (0 ≤ v1)) then (life_Step n v7 v8 v9 v10 (cI (List.take ((imin (v0.length : Int) 40)).toNat v0) v1 0) (cI (List.take ((imin (v0.length : Int) 40)).toNat v0) v1 1) (cI (List.take ((imin (v0.length : Int) 40)).toNat v0) v1 2)).bind fun y11 =>
  (bif (!(decide (y11.2.2.2.2 = 0))) then (bif (decide (v2 < (v0.length : Int))) then some (0, 0, 0, 0, v2, 140)
  else some (v3, v4, v5, v6, v2, 0))
  else bif ((decide ((-9223372036854775808) ≤ (v1 + 1))) && (decide ((v1 + 1) ≤ 9223372036854775807))) then go0 ((v1 + 1), (v1 + 1), y11.1, y11.2.1, y11.2.2.1, y11.2.2.2.1, y11.1, y11.2.1, y11.2.2.1, y11.2.2.2.1) else none) else none
  else (bif (decide (v2 < (v0.length : Int))) then some (0, 0, 0, 0, v2, 140)
  else some (v3, v4, v5, v6, v2, 0)))
def life_Run_1 (n : Nat) (v0 : Lv) : Option life_Run_a :=
  bif (decide (0 ≤ (imin (v0.length : Int) 40))) then bif (decide ((imin (v0.length : Int) 40) ≤ (v0.length : Int))) then (iterF (fun go0 s => life_Run_2 n go0 v0 s.1 s.2.1 s.2.2.1 s.2.2.2.1 s.2.2.2.2.1 s.2.2.2.2.2.1 s.2.2.2.2.2.2.1 s.2.2.2.2.2.2.2.1 s.2.2.2.2.2.2.2.2.1 s.2.2.2.2.2.2.2.2.2) n ((0, 0, 0, (-1), 0, 0, 0, (-1), 0, 0) : life_Run_s0)) else none else none
def life_Run (n : Nat) (v0 : Lv) : Option life_Run_a := life_Run_1 n v0
def life_Run_t : FnT := ⟨[(false, [(.sl (.cons .int (.cons .int (.cons .int .nil))))])], (.tup (.cons (.agg (.cons .i (.cons .i (.cons .i (.cons .i .nil))))) (.cons .i (.cons .i .nil)))), fun n (s : Lv) => life_Run n s⟩
theorem life_Run_ok : life_Run_t.ok Try.prog 8 := FnT.ok_of (cfg := ⟨[((47, 3, 13), .inv [(.tmp 15 .int), (.cell 1 0 .int), (.cell 2 0 .int), (.cell 2 1 .int), (.cell 2 2 .int), (.cell 2 3 .int), (.cell 7 0 .int), (.cell 7 1 .int), (.cell 7 2 .int), (.cell 7 3 .int)])], consD1, [], []⟩) (tab := life_Step_T) (mt := mt0) pfit life_Step_T_ok mt0_ok (fun s fn hf => by rw [Try.func8] at hf; cases hf; kernel_rfl) (fun n s => by kernel_rfl)
def life_Run_T : Tab := (8, life_Run_t) :: life_Step_T
theorem life_Run_T_ok : life_Run_T.ok Try.prog := Tab.ok_cons life_Run_ok life_Step_T_ok
/-! dialtone/life.at -/
abbrev life_at_a := Int × Int × Int × Int × Bool
abbrev life_at_s0 := Int × Int
def life_at_2 (n : Nat) (go0 : life_at_s0 → Option life_at_a) (v0 : Lv) (v1 v8 v9 : Int) : Option life_at_a :=
  (bif (decide (v8 < v9)) then bif ((decide ((-9223372036854775808) ≤ (v8 + v9))) && (decide ((v8 + v9) ≤ 9223372036854775807))) then bif (decide (0 ≤ 1)) then bif (decide (0 ≤ (IntKind.wrap .i64 (kopf .shr .u64 (IntKind.wrap .u64 (v8 + v9)) 1)))) then bif (decide ((IntKind.wrap .i64 (kopf .shr .u64 (IntKind.wrap .u64 (v8 + v9)) 1)) < (v0.length : Int))) then (bif (!(decide (v1 < (cI v0 (IntKind.wrap .i64 (kopf .shr .u64 (IntKind.wrap .u64 (v8 + v9)) 1)) 1)))) then bif ((decide ((-9223372036854775808) ≤ ((IntKind.wrap .i64 (kopf .shr .u64 (IntKind.wrap .u64 (v8 + v9)) 1)) + 1))) && (decide (((IntKind.wrap .i64 (kopf .shr .u64 (IntKind.wrap .u64 (v8 + v9)) 1)) + 1) ≤ 9223372036854775807))) then go0 (((IntKind.wrap .i64 (kopf .shr .u64 (IntKind.wrap .u64 (v8 + v9)) 1)) + 1), v9) else none
  else go0 (v8, (IntKind.wrap .i64 (kopf .shr .u64 (IntKind.wrap .u64 (v8 + v9)) 1)))) else none else none else none else none
  else bif (decide (0 ≤ v8)) then bif (decide (v8 ≤ (v0.length : Int))) then (life_Run n (List.take (v8).toNat v0)).bind fun y10 =>
  some (y10.1, y10.2.1, y10.2.2.1, y10.2.2.2.1, true) else none else none)
def life_at_1 (n : Nat) (v0 : Lv) (v1 : Int) : Option life_at_a :=
  (life_Run n v0).bind fun y2 =>
  (bif (!(decide (y2.2.2.2.2.2 = 0))) then some (0, 0, 0, 0, false)
  else (bif (decide (0 ≤ v1)) then (bif (!(decide (v1 ≤ 10000000))) then some (0, 0, 0, 0, false)
  else (iterF (fun go0 s => life_at_2 n go0 v0 v1 s.1 s.2) n ((0, (v0.length : Int)) : life_at_s0)))
  else some (0, 0, 0, 0, false)))
def life_at (n : Nat) (v0 : Lv) (v1 : Int) : Option life_at_a := life_at_1 n v0 v1
def life_at_t : FnT := ⟨[(false, [(.sl (.cons .int (.cons .int (.cons .int .nil))))]), (false, [.int])], (.tup (.cons (.agg (.cons .i (.cons .i (.cons .i (.cons .i .nil))))) (.cons .b .nil))), fun n (s : Lv × Int) => life_at n s.1 s.2⟩
theorem life_at_ok : life_at_t.ok Try.prog 40 := FnT.ok_of (cfg := ⟨[((48, 2, 5), .inv [(.tmp 5 .int), (.tmp 6 .int)])], consD1, [], []⟩) (tab := life_Run_T) (mt := mt0) pfit life_Run_T_ok mt0_ok (fun s fn hf => by rw [Try.func40] at hf; cases hf; kernel_rfl) (fun n s => by kernel_rfl)
def life_at_T : Tab := (40, life_at_t) :: life_Run_T
theorem life_at_T_ok : life_at_T.ok Try.prog := Tab.ok_cons life_at_ok life_Run_T_ok
/-! dialtone/life.At -/
abbrev life_At_a := Int × Int × Int × Int × Int
def life_At_1 (n : Nat) (v0 : Lv) (v1 : Int) : Option life_At_a :=
  (life_at n v0 v1).bind fun y2 =>
  (bif (!y2.2.2.2.2) then some (0, 0, 0, 0, 140)
  else some (y2.1, y2.2.1, y2.2.2.1, y2.2.2.2.1, 0))
def life_At (n : Nat) (v0 : Lv) (v1 : Int) : Option life_At_a := life_At_1 n v0 v1
def life_At_t : FnT := ⟨[(false, [(.sl (.cons .int (.cons .int (.cons .int .nil))))]), (false, [.int])], (.tup (.cons (.agg (.cons .i (.cons .i (.cons .i (.cons .i .nil))))) (.cons .i .nil))), fun n (s : Lv × Int) => life_At n s.1 s.2⟩
theorem life_At_ok : life_At_t.ok Try.prog 16 := FnT.ok_of (cfg := ⟨[], consD1, [], []⟩) (tab := life_at_T) (mt := mt0) pfit life_at_T_ok mt0_ok (fun s fn hf => by rw [Try.func16] at hf; cases hf; kernel_rfl) (fun n s => by kernel_rfl)
def life_At_T : Tab := (16, life_At_t) :: life_at_T
theorem life_At_T_ok : life_At_T.ok Try.prog := Tab.ok_cons life_At_ok life_at_T_ok
end
end Go.Proofs.Ytjhakonpnopcnaa
