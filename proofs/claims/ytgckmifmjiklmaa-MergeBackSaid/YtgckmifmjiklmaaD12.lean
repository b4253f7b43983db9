/-
  Plain functions for functions of the program, each with its contract (printed by decomp.py).
-/
import Derived.Test.YtgckmifmjiklmaaSxP
import Derived.Test.YtgckmifmjiklmaaSx25
import Derived.Test.YtgckmifmjiklmaaD11
set_option linter.unusedSimpArgs false
set_option linter.unusedVariables false
set_option maxRecDepth 100000
namespace Go.Proofs.Ytgckmifmjiklmaa
open Go Go.Sx
noncomputable section
def consD12 : List Nat := [5, 6, 7, 8, 9, 10, 11, 12, 14, 15, 16, 17, 18, 19, 20, 22, 23, 24, 25, 26, 27, 29, 30, 31, 32, 33, 41, 44, 47, 50, 57, 58, 66, 67, 73, 74, 75, 77, 82, 87, 88, 91, 94, 95, 1000006, 1000026, 1000082, 1000087, 1000095]
/-! dialtone/dialtonelaw42.pick -/
abbrev law42_pick_a := Int
def law42_pick_1 (n : Nat) (v0 v1 : Int) : Option law42_pick_a :=
  (bif (decide (v0 < 0)) then bif ((decide ((-9223372036854775808) ≤ (v0 + 1))) && (decide ((v0 + 1) ≤ 9223372036854775807))) then bif ((decide ((-9223372036854775808) ≤ (0 - (v0 + 1)))) && (decide ((0 - (v0 + 1)) ≤ 9223372036854775807))) then bif (!(decide (v1 = 0))) then some (Int.tmod (0 - (v0 + 1)) v1) else none else none else none
  else bif (!(decide (v1 = 0))) then some (Int.tmod v0 v1) else none)
def law42_pick (n : Nat) (v0 v1 : Int) : Option law42_pick_a := law42_pick_1 n v0 v1
def law42_pick_t : FnT := ⟨[(false, [.int]), (false, [.int])], .i, fun n (s : Int × Int) => law42_pick n s.1 s.2⟩
theorem law42_pick_ok : law42_pick_t.ok Try.prog 12 := FnT.ok_of (cfg := ⟨[], consD12, [], []⟩) (tab := ref42_One_T) (mt := mt0) pfit ref42_One_T_ok mt0_ok (fun s fn hf => by rw [Try.func12] at hf; cases hf; kernel_rfl) (fun n s => by kernel_rfl)
def law42_pick_T : Tab := (12, law42_pick_t) :: ref42_One_T
theorem law42_pick_T_ok : law42_pick_T.ok Try.prog := Tab.ok_cons law42_pick_ok ref42_One_T_ok
/-! dialtone/dialtonelaw42.example -/
abbrev law42_example_a := Int × Int × Lv × Lv × Lv
def law42_example_1 (n : Nat) : Option law42_example_a :=
  some (6, 6, ((([] : Lv) ++ [[(AV.int 100), (AV.int 200), (AV.int 1)]]) ++ [[(AV.int 200), (AV.int 300), (AV.int 2)]]), ((((((((([] : Lv) ++ [[(AV.int 0)]]) ++ [[(AV.int 50)]]) ++ [[(AV.int (-50))]]) ++ [[(AV.int 0)]]) ++ [[(AV.int 0)]]) ++ [[(AV.int 0)]]) ++ [[(AV.int 0)]]) ++ [[(AV.int 0)]]), (List.replicate ((8 : Int)).toNat [(AV.int 0)]))
def law42_example (n : Nat) : Option law42_example_a := law42_example_1 n
def law42_example_t : FnT := ⟨[], (.agg (.cons .i (.cons .i (.cons (.row 66 (.cons .int (.cons .int (.cons .int .nil)))) (.cons (.row 3 (.cons .int .nil)) (.cons (.row 3 (.cons .int .nil)) .nil)))))), fun n (s : Unit) => law42_example n⟩
theorem law42_example_ok : law42_example_t.ok Try.prog 16 := FnT.ok_of (cfg := ⟨[], consD12, [], []⟩) (tab := law42_pick_T) (mt := mt0) pfit law42_pick_T_ok mt0_ok (fun s fn hf => by rw [Try.func16] at hf; cases hf; kernel_rfl) (fun n s => by kernel_rfl)
def law42_example_T : Tab := (16, law42_example_t) :: law42_pick_T
theorem law42_example_T_ok : law42_example_T.ok Try.prog := Tab.ok_cons law42_example_ok law42_pick_T_ok
/-! dialtone/dialtonelaw42.events -/
abbrev law42_events_a := Lv
def law42_events_1 (n : Nat) : Option law42_events_a :=
  some ((([] : Lv) ++ [[(AV.int 2), (AV.int 10), (AV.int 1), (AV.int 3), (AV.int 0), (AV.int 150), (AV.int 180), (AV.int 20)]]) ++ [[(AV.int 1), (AV.int 20), (AV.int 1), (AV.int 2), (AV.int 0), (AV.int 0), (AV.int 0), (AV.int 0)]])
def law42_events (n : Nat) : Option law42_events_a := law42_events_1 n
def law42_events_t : FnT := ⟨[], (.row 36 (.cons .int (.cons .int (.cons .int (.cons .int (.cons .int (.cons .int (.cons .int (.cons .int .nil))))))))), fun n (s : Unit) => law42_events n⟩
theorem law42_events_ok : law42_events_t.ok Try.prog 17 := FnT.ok_of (cfg := ⟨[], consD12, [], []⟩) (tab := law42_example_T) (mt := mt0) pfit law42_example_T_ok mt0_ok (fun s fn hf => by rw [Try.func17] at hf; cases hf; kernel_rfl) (fun n s => by kernel_rfl)
def law42_events_T : Tab := (17, law42_events_t) :: law42_example_T
theorem law42_events_T_ok : law42_events_T.ok Try.prog := Tab.ok_cons law42_events_ok law42_example_T_ok
/-! dialtone/dialtonelaw42.used -/
abbrev law42_used_a := Lv
def law42_used_1 (n : Nat) (v0 v2 v3 v4 : Int) : Option law42_used_a :=
  (bif (decide (v0 = 3)) then some (((([] : Lv) ++ [[(AV.int v2)]]) ++ [[(AV.int v3)]]) ++ [[(AV.int v4)]])
  else some ((([] : Lv) ++ [[(AV.int v2)]]) ++ [[(AV.int v3)]]))
def law42_used (n : Nat) (v0 v1 v2 v3 v4 v5 v6 v7 : Int) : Option law42_used_a := law42_used_1 n v0 v2 v3 v4
def law42_used_t : FnT := ⟨[(true, [.int, .int, .int, .int, .int, .int, .int, .int])], (.row 3 (.cons .int .nil)), fun n (s : Int × Int × Int × Int × Int × Int × Int × Int) => law42_used n s.1 s.2.1 s.2.2.1 s.2.2.2.1 s.2.2.2.2.1 s.2.2.2.2.2.1 s.2.2.2.2.2.2.1 s.2.2.2.2.2.2.2⟩
theorem law42_used_ok : law42_used_t.ok Try.prog 29 := FnT.ok_of (cfg := ⟨[], consD12, [], []⟩) (tab := law42_events_T) (mt := mt0) pfit law42_events_T_ok mt0_ok (fun s fn hf => by rw [Try.func29] at hf; cases hf; kernel_rfl) (fun n s => by kernel_rfl)
def law42_used_T : Tab := (29, law42_used_t) :: law42_events_T
theorem law42_used_T_ok : law42_used_T.ok Try.prog := Tab.ok_cons law42_used_ok law42_events_T_ok
/-! dialtone/dialtonelaw42.common -/
abbrev law42_common_a := Bool
abbrev law42_common_s0 := Int
def law42_common_3 (n : Nat) (go0 : law42_common_s0 → Option law42_common_a) (go1 : law42_common_s0 → Option law42_common_a) (v16 : Lv) (v17 : Int) (v18 : Lv) (v19 : Int) : Option law42_common_a :=
  (bif (decide (v19 < (v18.length : Int))) then bif (decide (0 ≤ v19)) then (bif (decide ((cI v16 v17 0) = (cI v18 v19 0))) then some true
  else bif ((decide ((-9223372036854775808) ≤ (v19 + 1))) && (decide ((v19 + 1) ≤ 9223372036854775807))) then go1 (v19 + 1) else none) else none
  else bif ((decide ((-9223372036854775808) ≤ (v17 + 1))) && (decide ((v17 + 1) ≤ 9223372036854775807))) then go0 (v17 + 1) else none)
def law42_common_2 (n : Nat) (go0 : law42_common_s0 → Option law42_common_a) (v8 v9 v10 v11 v12 v13 v14 v15 : Int) (v16 : Lv) (v17 : Int) : Option law42_common_a :=
  (bif (decide (v17 < (v16.length : Int))) then bif (decide (0 ≤ v17)) then (law42_used n v8 v9 v10 v11 v12 v13 v14 v15).bind fun y18 =>
  (iterF (fun go1 s => law42_common_3 n go0 go1 v16 v17 y18 s) n (0 : law42_common_s0)) else none
  else some false)
def law42_common_1 (n : Nat) (v0 v1 v2 v3 v4 v5 v6 v7 v8 v9 v10 v11 v12 v13 v14 v15 : Int) : Option law42_common_a :=
  (law42_used n v0 v1 v2 v3 v4 v5 v6 v7).bind fun y16 =>
  (iterF (fun go0 s => law42_common_2 n go0 v8 v9 v10 v11 v12 v13 v14 v15 y16 s) n (0 : law42_common_s0))
def law42_common (n : Nat) (v0 v1 v2 v3 v4 v5 v6 v7 v8 v9 v10 v11 v12 v13 v14 v15 : Int) : Option law42_common_a := law42_common_1 n v0 v1 v2 v3 v4 v5 v6 v7 v8 v9 v10 v11 v12 v13 v14 v15
def law42_common_t : FnT := ⟨[(true, [.int, .int, .int, .int, .int, .int, .int, .int]), (true, [.int, .int, .int, .int, .int, .int, .int, .int])], .b, fun n (s : Int × Int × Int × Int × Int × Int × Int × Int × Int × Int × Int × Int × Int × Int × Int × Int) => law42_common n s.1 s.2.1 s.2.2.1 s.2.2.2.1 s.2.2.2.2.1 s.2.2.2.2.2.1 s.2.2.2.2.2.2.1 s.2.2.2.2.2.2.2.1 s.2.2.2.2.2.2.2.2.1 s.2.2.2.2.2.2.2.2.2.1 s.2.2.2.2.2.2.2.2.2.2.1 s.2.2.2.2.2.2.2.2.2.2.2.1 s.2.2.2.2.2.2.2.2.2.2.2.2.1 s.2.2.2.2.2.2.2.2.2.2.2.2.2.1 s.2.2.2.2.2.2.2.2.2.2.2.2.2.2.1 s.2.2.2.2.2.2.2.2.2.2.2.2.2.2.2⟩
theorem law42_common_ok : law42_common_t.ok Try.prog 8 := FnT.ok_of (cfg := ⟨[((8, 2, 3), .inv [(.tmp 12 .int)]), ((8, 5, 5), .inv [(.tmp 19 .int)])], consD12, [], []⟩) (tab := law42_used_T) (mt := mt0) pfit law42_used_T_ok mt0_ok (fun s fn hf => by rw [Try.func8] at hf; cases hf; kernel_rfl) (fun n s => by kernel_rfl)
def law42_common_T : Tab := (8, law42_common_t) :: law42_used_T
theorem law42_common_T_ok : law42_common_T.ok Try.prog := Tab.ok_cons law42_common_ok law42_used_T_ok
/-! dialtone/dialtonelaw42.made -/
abbrev law42_made_a := Int × Int × Lv × Lv × Lv × Lv
def law42_made_1 (n : Nat) (v0 v1 v2 : Int) (v3 v4 : Lv) : Option law42_made_a :=
  (law42_pick n v0 255).bind fun y5 =>
  bif ((decide ((-9223372036854775808) ≤ (1 + y5))) && (decide ((1 + y5) ≤ 9223372036854775807))) then (ref42_Owe n (1 + y5) v4).bind fun y6 =>
  (ref42_Made n v0 v1 v3 v2 y6).bind fun y7 =>
  some (y7.1, y7.2.1, y7.2.2.1, y7.2.2.2.1, y7.2.2.2.2, y6) else none
def law42_made (n : Nat) (v0 v1 v2 : Int) (v3 v4 : Lv) : Option law42_made_a := law42_made_1 n v0 v1 v2 v3 v4
def law42_made_t : FnT := ⟨[(true, [.int, .int, .int]), (false, [(.sl (.cons .int (.cons .int (.cons .int .nil))))]), (false, [(.sl (.cons .int (.cons .int (.cons .int .nil))))])], (.tup (.cons (.agg (.cons .i (.cons .i (.cons (.row 1000066 (.cons .int (.cons .int (.cons .int .nil)))) (.cons (.row 1000003 (.cons .int .nil)) (.cons (.row 1000003 (.cons .int .nil)) .nil)))))) (.cons (.row 1000064 (.cons .int (.cons .int (.cons .int .nil)))) .nil))), fun n (s : Int × Int × Int × Lv × Lv) => law42_made n s.1 s.2.1 s.2.2.1 s.2.2.2.1 s.2.2.2.2⟩
theorem law42_made_ok : law42_made_t.ok Try.prog 6 := FnT.ok_of (cfg := ⟨[], consD12, [], []⟩) (tab := law42_common_T) (mt := mt0) pfit law42_common_T_ok mt0_ok (fun s fn hf => by rw [Try.func6] at hf; cases hf; kernel_rfl) (fun n s => by kernel_rfl)
def law42_made_T : Tab := (6, law42_made_t) :: law42_common_T
theorem law42_made_T_ok : law42_made_T.ok Try.prog := Tab.ok_cons law42_made_ok law42_common_T_ok
/-! dialtone/dialtonelaw42.succeeds -/
abbrev law42_succeeds_a := Bool
def law42_succeeds_1 (n : Nat) (v0 v1 v2 : Int) : Option law42_succeeds_a :=
  (law42_example n ).bind fun y3 =>
  (law42_events n ).bind fun y8 =>
  (merge_Successor n y3.1 y3.2.1 y3.2.2.1 y3.2.2.2.1 y3.2.2.2.2 y8 1 v0 v1).bind fun y9 =>
  (bif (decide (y9.2 = 0)) then some (decide (y9.1 = v2))
  else some false)
def law42_succeeds (n : Nat) (v0 v1 v2 : Int) : Option law42_succeeds_a := law42_succeeds_1 n v0 v1 v2
def law42_succeeds_t : FnT := ⟨[(false, [.int]), (false, [.int]), (false, [.int])], .b, fun n (s : Int × Int × Int) => law42_succeeds n s.1 s.2.1 s.2.2⟩
theorem law42_succeeds_ok : law42_succeeds_t.ok Try.prog 23 := FnT.ok_of (cfg := ⟨[], consD12, [], []⟩) (tab := law42_made_T) (mt := mt0) pfit law42_made_T_ok mt0_ok (fun s fn hf => by rw [Try.func23] at hf; cases hf; kernel_rfl) (fun n s => by kernel_rfl)
def law42_succeeds_T : Tab := (23, law42_succeeds_t) :: law42_made_T
theorem law42_succeeds_T_ok : law42_succeeds_T.ok Try.prog := Tab.ok_cons law42_succeeds_ok law42_made_T_ok
end
end Go.Proofs.Ytgckmifmjiklmaa
