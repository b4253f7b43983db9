/-
  Plain functions for functions of the program, each with its contract (printed by decomp.py).
-/
import Derived.Test.YtgckmifmjiklmaaSxP
import Derived.Test.YtgckmifmjiklmaaSx25
import Derived.Test.YtgckmifmjiklmaaD13
set_option linter.unusedSimpArgs false
set_option linter.unusedVariables false
set_option maxRecDepth 100000
namespace Go.Proofs.Ytgckmifmjiklmaa
open Go Go.Sx
noncomputable section
def consE1 : List Nat := [5, 6, 7, 8, 9, 10, 11, 12, 14, 15, 16, 17, 18, 19, 20, 22, 23, 24, 25, 26, 27, 29, 30, 31, 32, 33, 41, 44, 47, 50, 57, 58, 66, 67, 73, 74, 75, 77, 82, 87, 88, 91, 94, 95, 1000006, 1000026, 1000082, 1000087, 1000095]
/-! dialtone/dialtonelaw42.MergeOrder -/
abbrev law42_MergeOrder_a := Bool
def law42_MergeOrder_1 (n : Nat) (v0 v1 v2 : Int) (v3 v4 : Lv) (v5 v6 v7 v8 v9 v10 v11 v12 v13 v14 v15 v16 v17 v18 : Int) : Option law42_MergeOrder_a :=
  (law42_sane n ).bind fun y19 =>
  (bif (!y19) then some false
  else (law42_made n v0 v1 v2 v3 v4).bind fun y20 =>
  (ref42_One n y20.1 y20.2.1 y20.2.2.1 y20.2.2.2.1 y20.2.2.2.2.1 0 v5 v6 v7 v8 v9 v10 v11).bind fun y26 =>
  (ref42_One n y20.1 y20.2.1 y20.2.2.1 y20.2.2.2.1 y20.2.2.2.2.1 0 v12 v13 v14 v15 v16 v17 v18).bind fun y34 =>
  (bif (decide (y26.1 = 4)) then some y19
  else (bif (decide (y34.1 = 4)) then some y19
  else (law42_common n y26.1 y26.2.1 y26.2.2.1 y26.2.2.2.1 y26.2.2.2.2.1 y26.2.2.2.2.2.1 y26.2.2.2.2.2.2.1 y26.2.2.2.2.2.2.2 y34.1 y34.2.1 y34.2.2.1 y34.2.2.2.1 y34.2.2.2.2.1 y34.2.2.2.2.2.1 y34.2.2.2.2.2.2.1 y34.2.2.2.2.2.2.2).bind fun y42 =>
  (bif y42 then some y19
  else (merge_Step n y20.1 y20.2.1 y20.2.2.1 y20.2.2.2.1 y20.2.2.2.2.1 y26.1 y26.2.1 y26.2.2.1 y26.2.2.2.1 y26.2.2.2.2.1 y26.2.2.2.2.2.1 y26.2.2.2.2.2.2.1 y26.2.2.2.2.2.2.2).bind fun y43 =>
  (merge_Step n y43.1 y43.2.1 y43.2.2.1 y43.2.2.2.1 y43.2.2.2.2.1 y34.1 y34.2.1 y34.2.2.1 y34.2.2.2.1 y34.2.2.2.2.1 y34.2.2.2.2.2.1 y34.2.2.2.2.2.2.1 y34.2.2.2.2.2.2.2).bind fun y49 =>
  (merge_Step n y20.1 y20.2.1 y20.2.2.1 y20.2.2.2.1 y20.2.2.2.2.1 y34.1 y34.2.1 y34.2.2.1 y34.2.2.2.1 y34.2.2.2.2.1 y34.2.2.2.2.2.1 y34.2.2.2.2.2.2.1 y34.2.2.2.2.2.2.2).bind fun y55 =>
  (merge_Step n y55.1 y55.2.1 y55.2.2.1 y55.2.2.2.1 y55.2.2.2.2.1 y26.1 y26.2.1 y26.2.2.1 y26.2.2.2.1 y26.2.2.2.2.1 y26.2.2.2.2.2.1 y26.2.2.2.2.2.2.1 y26.2.2.2.2.2.2.2).bind fun y61 =>
  (bif (!(decide (y43.2.2.2.2.2 = 0))) then some y19
  else (bif (!(decide (y49.2.2.2.2.2 = 0))) then some y19
  else (bif (!(decide (y55.2.2.2.2.2 = 0))) then some y19
  else (bif (!(decide (y61.2.2.2.2.2 = 0))) then some y19
  else (ref42_Same n y49.1 y49.2.1 y49.2.2.1 y49.2.2.2.1 y49.2.2.2.2.1 y61.1 y61.2.1 y61.2.2.1 y61.2.2.2.1 y61.2.2.2.2.1).bind fun y67 =>
  some y67))))))))
def law42_MergeOrder (n : Nat) (v0 v1 v2 : Int) (v3 v4 : Lv) (v5 v6 v7 v8 v9 v10 v11 v12 v13 v14 v15 v16 v17 v18 : Int) : Option law42_MergeOrder_a := law42_MergeOrder_1 n v0 v1 v2 v3 v4 v5 v6 v7 v8 v9 v10 v11 v12 v13 v14 v15 v16 v17 v18
def law42_MergeOrder_t : FnT := ⟨[(true, [.int, .int, .int]), (false, [(.sl (.cons .int (.cons .int (.cons .int .nil))))]), (false, [(.sl (.cons .int (.cons .int (.cons .int .nil))))]), (true, [.int, .int, .int, .int, .int, .int, .int]), (true, [.int, .int, .int, .int, .int, .int, .int])], .b, fun n (s : Int × Int × Int × Lv × Lv × Int × Int × Int × Int × Int × Int × Int × Int × Int × Int × Int × Int × Int × Int) => law42_MergeOrder n s.1 s.2.1 s.2.2.1 s.2.2.2.1 s.2.2.2.2.1 s.2.2.2.2.2.1 s.2.2.2.2.2.2.1 s.2.2.2.2.2.2.2.1 s.2.2.2.2.2.2.2.2.1 s.2.2.2.2.2.2.2.2.2.1 s.2.2.2.2.2.2.2.2.2.2.1 s.2.2.2.2.2.2.2.2.2.2.2.1 s.2.2.2.2.2.2.2.2.2.2.2.2.1 s.2.2.2.2.2.2.2.2.2.2.2.2.2.1 s.2.2.2.2.2.2.2.2.2.2.2.2.2.2.1 s.2.2.2.2.2.2.2.2.2.2.2.2.2.2.2.1 s.2.2.2.2.2.2.2.2.2.2.2.2.2.2.2.2.1 s.2.2.2.2.2.2.2.2.2.2.2.2.2.2.2.2.2.1 s.2.2.2.2.2.2.2.2.2.2.2.2.2.2.2.2.2.2⟩
theorem law42_MergeOrder_ok : law42_MergeOrder_t.ok Try.prog 3 := FnT.ok_of (cfg := ⟨[], consE1, [], []⟩) (tab := law42_sane_T) (mt := mt0) pfit law42_sane_T_ok mt0_ok (fun s fn hf => by rw [Try.func3] at hf; cases hf; kernel_rfl) (fun n s => by kernel_rfl)
def law42_MergeOrder_T : Tab := (3, law42_MergeOrder_t) :: law42_sane_T
theorem law42_MergeOrder_T_ok : law42_MergeOrder_T.ok Try.prog := Tab.ok_cons law42_MergeOrder_ok law42_sane_T_ok
end
end Go.Proofs.Ytgckmifmjiklmaa
