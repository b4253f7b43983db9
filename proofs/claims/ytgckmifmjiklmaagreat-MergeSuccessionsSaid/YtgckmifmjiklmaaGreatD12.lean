/-
  Plain functions for functions of the program, each with its contract (printed by decomp.py).
-/
import Derived.Test.YtgckmifmjiklmaaGreatSxP
import Derived.Test.YtgckmifmjiklmaaGreatSx25
import Derived.Test.YtgckmifmjiklmaaGreatD11
set_option linter.unusedSimpArgs false
set_option linter.unusedVariables false
set_option maxRecDepth 100000
namespace Go.Proofs.YtgckmifmjiklmaaGreat
open Go Go.Sx
noncomputable section
def consD12 : List Nat := [11, 12, 13, 14, 15, 16, 17, 18, 19, 20, 21, 22, 23, 24, 25, 26, 27, 28, 29, 30, 31, 32, 33, 34, 35, 36, 37, 38, 40, 46, 47, 51, 52, 54, 55, 56, 57, 58, 59, 61, 62, 63, 64, 66, 67, 69, 80, 83, 87, 90, 91, 92, 95, 96, 115, 116, 121, 122, 127, 128, 164, 165, 166, 197, 198, 201, 204, 205, 216, 229, 1000012, 1000056, 1000197, 1000216, 1000229]
/-! dialtone/dialtonelaw42.pick -/
abbrev law42_pick_a := Int
def law42_pick_1 (n : Nat) (v0 v1 : Int) : Option law42_pick_a :=
  (bif (decide (v0 < 0)) then bif ((decide ((-9223372036854775808) ≤ (v0 + 1))) && (decide ((v0 + 1) ≤ 9223372036854775807))) then bif ((decide ((-9223372036854775808) ≤ (0 - (v0 + 1)))) && (decide ((0 - (v0 + 1)) ≤ 9223372036854775807))) then bif (!(decide (v1 = 0))) then some (Int.tmod (0 - (v0 + 1)) v1) else none else none else none
  else bif (!(decide (v1 = 0))) then some (Int.tmod v0 v1) else none)
def law42_pick (n : Nat) (v0 v1 : Int) : Option law42_pick_a := law42_pick_1 n v0 v1
def law42_pick_t : FnT := ⟨[(false, [.int]), (false, [.int])], .i, fun n (s : Int × Int) => law42_pick n s.1 s.2⟩
theorem law42_pick_ok : law42_pick_t.ok Tryz.prog 23 := FnT.ok_of (cfg := ⟨[], consD12, [], []⟩) (tab := ref42_One_T) (mt := mt0) pfit ref42_One_T_ok mt0_ok (fun s fn hf => by rw [Tryz.func23] at hf; cases hf; kernel_rfl) (fun n s => by kernel_rfl)
def law42_pick_T : Tab := (23, law42_pick_t) :: ref42_One_T
theorem law42_pick_T_ok : law42_pick_T.ok Tryz.prog := Tab.ok_cons law42_pick_ok ref42_One_T_ok
/-! dialtone/dialtonelaw42.example -/
abbrev law42_example_a := Int × Int × Lv × Lv × Lv
def law42_example_1 (n : Nat) : Option law42_example_a :=
  some (6, 6, ((([] : Lv) ++ [[(AV.int 100), (AV.int 200), (AV.int 1)]]) ++ [[(AV.int 200), (AV.int 300), (AV.int 2)]]), ((((((((([] : Lv) ++ [[(AV.int 0)]]) ++ [[(AV.int 50)]]) ++ [[(AV.int (-50))]]) ++ [[(AV.int 0)]]) ++ [[(AV.int 0)]]) ++ [[(AV.int 0)]]) ++ [[(AV.int 0)]]) ++ [[(AV.int 0)]]), (List.replicate ((8 : Int)).toNat [(AV.int 0)]))
def law42_example (n : Nat) : Option law42_example_a := law42_example_1 n
def law42_example_t : FnT := ⟨[], (.agg (.cons .i (.cons .i (.cons (.row 116 (.cons .int (.cons .int (.cons .int .nil)))) (.cons (.row 3 (.cons .int .nil)) (.cons (.row 3 (.cons .int .nil)) .nil)))))), fun n (s : Unit) => law42_example n⟩
theorem law42_example_ok : law42_example_t.ok Tryz.prog 51 := FnT.ok_of (cfg := ⟨[], consD12, [], []⟩) (tab := law42_pick_T) (mt := mt0) pfit law42_pick_T_ok mt0_ok (fun s fn hf => by rw [Tryz.func51] at hf; cases hf; kernel_rfl) (fun n s => by kernel_rfl)
def law42_example_T : Tab := (51, law42_example_t) :: law42_pick_T
theorem law42_example_T_ok : law42_example_T.ok Tryz.prog := Tab.ok_cons law42_example_ok law42_pick_T_ok
/-! dialtone/dialtonelaw42.events -/
abbrev law42_events_a := Lv
def law42_events_1 (n : Nat) : Option law42_events_a :=
  some ((([] : Lv) ++ [[(AV.int 2), (AV.int 10), (AV.int 1), (AV.int 3), (AV.int 0), (AV.int 150), (AV.int 180), (AV.int 20)]]) ++ [[(AV.int 1), (AV.int 20), (AV.int 1), (AV.int 2), (AV.int 0), (AV.int 0), (AV.int 0), (AV.int 0)]])
def law42_events (n : Nat) : Option law42_events_a := law42_events_1 n
def law42_events_t : FnT := ⟨[], (.row 41 (.cons .int (.cons .int (.cons .int (.cons .int (.cons .int (.cons .int (.cons .int (.cons .int .nil))))))))), fun n (s : Unit) => law42_events n⟩
theorem law42_events_ok : law42_events_t.ok Tryz.prog 52 := FnT.ok_of (cfg := ⟨[], consD12, [], []⟩) (tab := law42_example_T) (mt := mt0) pfit law42_example_T_ok mt0_ok (fun s fn hf => by rw [Tryz.func52] at hf; cases hf; kernel_rfl) (fun n s => by kernel_rfl)
def law42_events_T : Tab := (52, law42_events_t) :: law42_example_T
theorem law42_events_T_ok : law42_events_T.ok Tryz.prog := Tab.ok_cons law42_events_ok law42_example_T_ok
/-! dialtone/dialtonelaw42.made -/
abbrev law42_made_a := Int × Int × Lv × Lv × Lv × Lv
def law42_made_1 (n : Nat) (v0 v1 v2 : Int) (v3 v4 : Lv) : Option law42_made_a :=
  (law42_pick n v0 255).bind fun y5 =>
  bif ((decide ((-9223372036854775808) ≤ (1 + y5))) && (decide ((1 + y5) ≤ 9223372036854775807))) then (ref42_Owe n (1 + y5) v4).bind fun y6 =>
  (ref42_Made n v0 v1 v3 v2 y6).bind fun y7 =>
  some (y7.1, y7.2.1, y7.2.2.1, y7.2.2.2.1, y7.2.2.2.2, y6) else none
def law42_made (n : Nat) (v0 v1 v2 : Int) (v3 v4 : Lv) : Option law42_made_a := law42_made_1 n v0 v1 v2 v3 v4
def law42_made_t : FnT := ⟨[(true, [.int, .int, .int]), (false, [(.sl (.cons .int (.cons .int (.cons .int .nil))))]), (false, [(.sl (.cons .int (.cons .int (.cons .int .nil))))])], (.tup (.cons (.agg (.cons .i (.cons .i (.cons (.row 1000116 (.cons .int (.cons .int (.cons .int .nil)))) (.cons (.row 1000003 (.cons .int .nil)) (.cons (.row 1000003 (.cons .int .nil)) .nil)))))) (.cons (.row 1000114 (.cons .int (.cons .int (.cons .int .nil)))) .nil))), fun n (s : Int × Int × Int × Lv × Lv) => law42_made n s.1 s.2.1 s.2.2.1 s.2.2.2.1 s.2.2.2.2⟩
theorem law42_made_ok : law42_made_t.ok Tryz.prog 12 := FnT.ok_of (cfg := ⟨[], consD12, [], []⟩) (tab := law42_events_T) (mt := mt0) pfit law42_events_T_ok mt0_ok (fun s fn hf => by rw [Tryz.func12] at hf; cases hf; kernel_rfl) (fun n s => by kernel_rfl)
def law42_made_T : Tab := (12, law42_made_t) :: law42_events_T
theorem law42_made_T_ok : law42_made_T.ok Tryz.prog := Tab.ok_cons law42_made_ok law42_events_T_ok
/-! dialtone/dialtonelaw42.succeeds -/
abbrev law42_succeeds_a := Bool
def law42_succeeds_1 (n : Nat) (v0 v1 v2 : Int) : Option law42_succeeds_a :=
  (law42_example n ).bind fun y3 =>
  (law42_events n ).bind fun y8 =>
  (merge_Successor n y3.1 y3.2.1 y3.2.2.1 y3.2.2.2.1 y3.2.2.2.2 y8 1 v0 v1).bind fun y9 =>
  (bif (decide (y9.2 = 0)) then some (decide (y9.1 = v2))
  else some false)
def law42_succeeds (n : Nat) (v0 v1 v2 : Int) : Option law42_succeeds_a := law42_succeeds_1 n v0 v1 v2
def law42_succeeds_t : FnT := ⟨[(false, [.int]), (false, [.int]), (false, [.int])], .b, fun n (s : Int × Int × Int) => law42_succeeds n s.1 s.2.1 s.2.2⟩
theorem law42_succeeds_ok : law42_succeeds_t.ok Tryz.prog 54 := FnT.ok_of (cfg := ⟨[], consD12, [], []⟩) (tab := law42_made_T) (mt := mt0) pfit law42_made_T_ok mt0_ok (fun s fn hf => by rw [Tryz.func54] at hf; cases hf; kernel_rfl) (fun n s => by kernel_rfl)
def law42_succeeds_T : Tab := (54, law42_succeeds_t) :: law42_made_T
theorem law42_succeeds_T_ok : law42_succeeds_T.ok Tryz.prog := Tab.ok_cons law42_succeeds_ok law42_made_T_ok
end
end Go.Proofs.YtgckmifmjiklmaaGreat
