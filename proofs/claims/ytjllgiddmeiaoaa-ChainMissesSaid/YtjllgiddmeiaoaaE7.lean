/-
  Plain functions for functions of the program, each with its contract (printed by decomp.py).
-/
import Derived.Test.YtjllgiddmeiaoaaSxP
import Derived.Test.YtjllgiddmeiaoaaSx25
import Derived.Test.YtjllgiddmeiaoaaDS
set_option linter.unusedSimpArgs false
set_option linter.unusedVariables false
set_option maxRecDepth 100000
namespace Go.Proofs.Ytjllgiddmeiaoaa
open Go Go.Sx
noncomputable section
def consE7 : List Nat := [12, 13, 14, 15, 16, 17, 18, 19, 20, 21, 22, 23, 24, 25, 26, 27, 28, 29, 30, 31, 32, 33, 34, 35, 36, 37, 38, 41, 42, 43, 47, 49, 50, 52, 53, 54, 56, 57, 58, 61, 64, 79, 80, 82, 83, 84, 86, 87, 88, 89, 90, 100, 101, 106]
def mapsE7 : List (Nat × SV × SV) := [(69, SV.of [.agg (SV.of [.vi (.int 1), .vi (.int 1)]), .agg (SV.of [.vi (.int 2), .vi (.int 1)]), .agg (SV.of [.vi (.int 3), .vi (.int 2)]), .agg (SV.of [.vi (.int 4), .vi (.int 2)]), .agg (SV.of [.vi (.int 5), .vi (.int 1)]), .agg (SV.of [.vi (.int 5), .vi (.int 2)]), .agg (SV.of [.vi (.int 5), .vi (.int 3)]), .agg (SV.of [.vi (.int 6), .vi (.int 4)])], SV.of [.vi (.int 3), .vi (.int 2), .vi (.int 3), .vi (.int 6), .vi (.int 7), .vi (.int 7), .vi (.int 7), .vi (.int 8)])]
/-! dialtone/dialtonelaw17.ChainMisses -/
abbrev law17_ChainMisses_a := Bool
abbrev law17_ChainMisses_s0 := Lv × Int
abbrev law17_ChainMisses_s1 := Lv × Int
def law17_ChainMisses_8 (n : Nat) (go0 : law17_ChainMisses_s0 → Option law17_ChainMisses_a) (v9 v11 v12 v13 v14 v15 v16 : Int) (v17 v18 v19 v21 : Lv) (v23 v24 v25 v26 v27 v28 v29 : Int) (v30 v32 : Lv) (v33 : Int) : Option law17_ChainMisses_a :=
  (bif (decide (v33 < (v19.length : Int))) then bif (decide (0 ≤ v33)) then (bif (decide ((cI v19 v33 1) = (cI v21 v23 0))) then bif ((decide ((-9223372036854775808) ≤ (v33 + 1))) && (decide ((v33 + 1) ≤ 9223372036854775807))) then go0 (v32, (v33 + 1)) else none
  else (bif (decide ((cI v21 v23 0) < (cI v19 v33 1))) then bif ((decide ((-9223372036854775808) ≤ ((cI v19 v33 1) - 1))) && (decide (((cI v19 v33 1) - 1) ≤ 9223372036854775807))) then bif (decide ((((v32.length : Int) + 1) * 24) ≤ 140737488355328)) then bif ((decide ((-9223372036854775808) ≤ (v33 + 1))) && (decide ((v33 + 1) ≤ 9223372036854775807))) then go0 ((v32 ++ [[(AV.int (cI v19 v33 0)), (AV.int ((cI v19 v33 1) - 1)), (AV.int (cI v19 v33 2))]]), (v33 + 1)) else none else none else none
  else bif (decide ((((v32.length : Int) + 1) * 24) ≤ 140737488355328)) then bif ((decide ((-9223372036854775808) ≤ (v33 + 1))) && (decide ((v33 + 1) ≤ 9223372036854775807))) then go0 ((v32 ++ [[(AV.int (cI v19 v33 0)), (AV.int (cI v19 v33 1)), (AV.int (cI v19 v33 2))]]), (v33 + 1)) else none else none)) else none
  else (chain_Turns n v24 v25 v26 v27 v28 v29 v30 ((List.take ((cI v21 v23 0)).toNat v18) ++ (List.drop (((cI v21 v23 0) + 1)).toNat (List.take ((v18.length : Int)).toNat v18)))).bind fun y34 =>
  (ref17_Time n v11 v12 v13 v14 v15 v16 v17 v18 v9).bind fun y36 =>
  (chain_At n v11 v12 v13 v14 v15 v16 v17 v18 y36).bind fun y37 =>
  (chain_At n v24 v25 v26 v27 v28 v29 v30 ((List.take ((cI v21 v23 0)).toNat v18) ++ (List.drop (((cI v21 v23 0) + 1)).toNat (List.take ((v18.length : Int)).toNat v18))) y36).bind fun y40 =>
  (bif (decide (y34.2 = 0)) then (bif (decide (y37.2.2 = 0)) then (bif (decide (y40.2.2 = 0)) then (ref17_SameTurns n y34.1 v32).bind fun y43 =>
  (bif y43 then some (decide (y37.1 = y40.1))
  else some false)
  else some false)
  else some false)
  else some false))
def law17_ChainMisses_7 (n : Nat) (go0 : law17_ChainMisses_s1 → Option law17_ChainMisses_a) (v9 v11 v12 v13 v14 v15 v16 : Int) (v17 v18 v19 v21 : Lv) (v23 : Int) : Option law17_ChainMisses_a :=
  (bif (decide ((v18.length : Int) ≤ (cI v21 v23 0))) then some false
  else (ref17_Copy n v11 v12 v13 v14 v15 v16 v17 v18).bind fun y24 =>
  bif (decide (0 ≤ (cI v21 v23 0))) then bif (decide ((cI v21 v23 0) ≤ (v18.length : Int))) then bif (decide ((((List.take ((cI v21 v23 0)).toNat v18).length : Int) * 72) ≤ 140737488355328)) then bif ((decide ((-9223372036854775808) ≤ ((cI v21 v23 0) + 1))) && (decide (((cI v21 v23 0) + 1) ≤ 9223372036854775807))) then bif (decide (0 ≤ ((cI v21 v23 0) + 1))) then bif (decide (((cI v21 v23 0) + 1) ≤ (v18.length : Int))) then bif (decide ((v18.length : Int) ≤ (v18.length : Int))) then bif (decide (((((List.take ((cI v21 v23 0)).toNat v18) ++ (List.drop (((cI v21 v23 0) + 1)).toNat (List.take ((v18.length : Int)).toNat v18))).length : Int) * 72) ≤ 140737488355328)) then (iterF (fun go0 s => law17_ChainMisses_8 n go0 v9 v11 v12 v13 v14 v15 v16 v17 v18 v19 v21 v23 y24.1 y24.2.1 y24.2.2.1 y24.2.2.2.1 y24.2.2.2.2.1 y24.2.2.2.2.2.1 y24.2.2.2.2.2.2.1 s.1 s.2) n ((([] : Lv), 0) : law17_ChainMisses_s0)) else none else none else none else none else none else none else none else none)
def law17_ChainMisses_6 (n : Nat) (go0 : law17_ChainMisses_s1 → Option law17_ChainMisses_a) (v9 v11 v12 v13 v14 v15 v16 : Int) (v17 v18 v19 v21 : Lv) (v23 : Int) : Option law17_ChainMisses_a :=
  (bif (decide ((cI v21 v23 0) < 0)) then some false
  else law17_ChainMisses_7 n go0 v9 v11 v12 v13 v14 v15 v16 v17 v18 v19 v21 v23)
def law17_ChainMisses_5 (n : Nat) (go0 : law17_ChainMisses_s1 → Option law17_ChainMisses_a) (v8 v9 v11 v12 v13 v14 v15 v16 : Int) (v17 v18 v19 v21 : Lv) : Option law17_ChainMisses_a :=
  (bif (decide ((v21.length : Int) = 0)) then some true
  else (law17_pick n v8 (v21.length : Int)).bind fun y23 =>
  bif (decide (0 ≤ y23)) then bif (decide (y23 < (v21.length : Int))) then law17_ChainMisses_6 n go0 v9 v11 v12 v13 v14 v15 v16 v17 v18 v19 v21 y23 else none else none)
def law17_ChainMisses_4 (n : Nat) (go0 : law17_ChainMisses_s1 → Option law17_ChainMisses_a) (v8 v9 v11 v12 v13 v14 v15 v16 : Int) (v17 v18 v19 : Lv) (v20 : Int) (v21 : Lv) : Option law17_ChainMisses_a :=
  (bif (!(decide (v20 = 0))) then some false
  else law17_ChainMisses_5 n go0 v8 v9 v11 v12 v13 v14 v15 v16 v17 v18 v19 v21)
def law17_ChainMisses_3 (n : Nat) (go0 : law17_ChainMisses_s1 → Option law17_ChainMisses_a) (v8 v9 v11 v12 v13 v14 v15 v16 : Int) (v17 v18 v19 : Lv) (v20 : Int) (v21 : Lv) (v22 : Int) : Option law17_ChainMisses_a :=
  (bif (decide (v22 < (v19.length : Int))) then bif (decide (0 ≤ v22)) then (bif (decide ((cI v19 v22 2) = 2)) then bif (decide ((((v21.length : Int) + 1) * 8) ≤ 140737488355328)) then bif ((decide ((-9223372036854775808) ≤ (v22 + 1))) && (decide ((v22 + 1) ≤ 9223372036854775807))) then go0 ((v21 ++ [[(AV.int (cI v19 v22 1))]]), (v22 + 1)) else none else none
  else bif ((decide ((-9223372036854775808) ≤ (v22 + 1))) && (decide ((v22 + 1) ≤ 9223372036854775807))) then go0 (v21, (v22 + 1)) else none) else none
  else law17_ChainMisses_4 n go0 v8 v9 v11 v12 v13 v14 v15 v16 v17 v18 v19 v20 v21)
def law17_ChainMisses_2 (n : Nat) (v0 v1 v2 v3 v4 v5 : Int) (v6 v7 : Lv) (v8 v9 : Int) (v10 : Bool) : Option law17_ChainMisses_a :=
  (bif (!v10) then some false
  else (ref17_Made n v0 v1 v2 v3 v4 v5 v6 v7).bind fun y11 =>
  (chain_Turns n y11.1 y11.2.1 y11.2.2.1 y11.2.2.2.1 y11.2.2.2.2.1 y11.2.2.2.2.2.1 y11.2.2.2.2.2.2.1 y11.2.2.2.2.2.2.2).bind fun y19 =>
  (iterF (fun go0 s => law17_ChainMisses_3 n go0 v8 v9 y11.1 y11.2.1 y11.2.2.1 y11.2.2.2.1 y11.2.2.2.2.1 y11.2.2.2.2.2.1 y11.2.2.2.2.2.2.1 y11.2.2.2.2.2.2.2 y19.1 y19.2 s.1 s.2) n ((([] : Lv), 0) : law17_ChainMisses_s1)))
def law17_ChainMisses_1 (n : Nat) (v0 v1 v2 v3 v4 v5 : Int) (v6 v7 : Lv) (v8 v9 : Int) : Option law17_ChainMisses_a :=
  (law17_sane n ).bind fun y10 =>
  law17_ChainMisses_2 n v0 v1 v2 v3 v4 v5 v6 v7 v8 v9 y10
def law17_ChainMisses (n : Nat) (v0 v1 v2 v3 v4 v5 : Int) (v6 v7 : Lv) (v8 v9 : Int) : Option law17_ChainMisses_a := law17_ChainMisses_1 n v0 v1 v2 v3 v4 v5 v6 v7 v8 v9
def law17_ChainMisses_t : FnT := ⟨[(true, [.int, .int, .int, .int, .int, .int, (.sl (.cons .int (.cons .int (.cons .int .nil)))), (.sl (.cons .int (.cons .int (.cons .int (.cons .int (.cons .int (.cons .int (.cons (.sl (.cons .int (.cons .int (.cons .int .nil)))) (.cons .int .nil)))))))))]), (false, [.int]), (false, [.int])], .b, fun n (s : Int × Int × Int × Int × Int × Int × Lv × Lv × Int × Int) => law17_ChainMisses n s.1 s.2.1 s.2.2.1 s.2.2.2.1 s.2.2.2.2.1 s.2.2.2.2.2.1 s.2.2.2.2.2.2.1 s.2.2.2.2.2.2.2.1 s.2.2.2.2.2.2.2.2.1 s.2.2.2.2.2.2.2.2.2⟩
theorem law17_ChainMisses_ok : law17_ChainMisses_t.ok Try.prog 7 := FnT.ok_of (cfg := ⟨[((7, 7, 6), .inv [(.tmprow 10 3 (.cons .int .nil)), (.tmp 11 .int)]), ((7, 22, 16), .inv [(.tmprow 14 63 (.cons .int (.cons .int (.cons .int .nil)))), (.tmp 15 .int)])], consE7, [], mapsE7⟩) (tab := law17_sane_T) (mt := mtE) pfit law17_sane_T_ok mtE_ok (fun s fn hf => by rw [Try.func7] at hf; cases hf; kernel_rfl) (fun n s => by kernel_rfl)
def law17_ChainMisses_T : Tab := (7, law17_ChainMisses_t) :: law17_sane_T
theorem law17_ChainMisses_T_ok : law17_ChainMisses_T.ok Try.prog := Tab.ok_cons law17_ChainMisses_ok law17_sane_T_ok
end
end Go.Proofs.Ytjllgiddmeiaoaa
