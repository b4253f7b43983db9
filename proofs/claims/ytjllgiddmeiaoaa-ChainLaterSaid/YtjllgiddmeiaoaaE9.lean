/-
  Plain functions for functions of the program, each with its contract (printed by decomp.py).
-/
import Derived.Test.YtjllgiddmeiaoaaSxP
import Derived.Test.YtjllgiddmeiaoaaSx25
import Derived.Test.YtjllgiddmeiaoaaDS
set_option linter.unusedSimpArgs false
set_option linter.unusedVariables false
set_option maxRecDepth 100000
namespace Go.Proofs.Ytjllgiddmeiaoaa
open Go Go.Sx
noncomputable section
def consE9 : List Nat := [12, 13, 14, 15, 16, 17, 18, 19, 20, 21, 22, 23, 24, 25, 26, 27, 28, 29, 30, 31, 32, 33, 34, 35, 36, 37, 38, 41, 42, 43, 47, 49, 50, 52, 53, 54, 56, 57, 58, 61, 64, 79, 80, 82, 83, 84, 86, 87, 88, 89, 90, 100, 101, 106]
def mapsE9 : List (Nat × SV × SV) := [(69, SV.of [.agg (SV.of [.vi (.int 1), .vi (.int 1)]), .agg (SV.of [.vi (.int 2), .vi (.int 1)]), .agg (SV.of [.vi (.int 3), .vi (.int 2)]), .agg (SV.of [.vi (.int 4), .vi (.int 2)]), .agg (SV.of [.vi (.int 5), .vi (.int 1)]), .agg (SV.of [.vi (.int 5), .vi (.int 2)]), .agg (SV.of [.vi (.int 5), .vi (.int 3)]), .agg (SV.of [.vi (.int 6), .vi (.int 4)])], SV.of [.vi (.int 3), .vi (.int 2), .vi (.int 3), .vi (.int 6), .vi (.int 7), .vi (.int 7), .vi (.int 7), .vi (.int 8)])]
/-! dialtone/dialtonelaw17.ChainLater -/
abbrev law17_ChainLater_a := Bool
abbrev law17_ChainLater_s0 := Int × Lv
abbrev law17_ChainLater_s1 := Int × Lv
def law17_ChainLater_6 (n : Nat) (go0 : law17_ChainLater_s0 → Option law17_ChainLater_a) (go1 : law17_ChainLater_s1 → Option law17_ChainLater_a) (v17 : Lv) (v18 v21 : Int) (v22 : Lv) (v23 : Int) (v24 : Lv) : Option law17_ChainLater_a :=
  (bif (decide (v23 < ((cL v17 v21 6).length : Int))) then bif (decide (0 ≤ v23)) then (bif (decide ((cI (cL v17 v21 6) v23 1) ≤ v18)) then bif (decide ((((v24.length : Int) + 1) * 24) ≤ 140737488355328)) then bif ((decide ((-9223372036854775808) ≤ (v23 + 1))) && (decide ((v23 + 1) ≤ 9223372036854775807))) then go1 ((v23 + 1), (v24 ++ [[(AV.int (cI (cL v17 v21 6) v23 0)), (AV.int (cI (cL v17 v21 6) v23 1)), (AV.int (cI (cL v17 v21 6) v23 2))]])) else none else none
  else bif (decide ((((v22.length : Int) + 1) * 72) ≤ 140737488355328)) then bif ((decide ((-9223372036854775808) ≤ (v21 + 1))) && (decide ((v21 + 1) ≤ 9223372036854775807))) then go0 ((v21 + 1), (v22 ++ [[(AV.int (cI v17 v21 0)), (AV.int (cI v17 v21 1)), (AV.int (cI v17 v21 2)), (AV.int (cI v17 v21 3)), (AV.int (cI v17 v21 4)), (AV.bool (cB v17 v21 5)), (AV.sl (.cons .int (.cons .int (.cons .int .nil))) v24)]])) else none else none) else none
  else bif (decide ((((v22.length : Int) + 1) * 72) ≤ 140737488355328)) then bif ((decide ((-9223372036854775808) ≤ (v21 + 1))) && (decide ((v21 + 1) ≤ 9223372036854775807))) then go0 ((v21 + 1), (v22 ++ [[(AV.int (cI v17 v21 0)), (AV.int (cI v17 v21 1)), (AV.int (cI v17 v21 2)), (AV.int (cI v17 v21 3)), (AV.int (cI v17 v21 4)), (AV.bool (cB v17 v21 5)), (AV.sl (.cons .int (.cons .int (.cons .int .nil))) v24)]])) else none else none)
def law17_ChainLater_5 (n : Nat) (go0 : law17_ChainLater_s0 → Option law17_ChainLater_a) (v10 v11 v12 v13 v14 v15 : Int) (v16 v17 : Lv) (v18 : Int) (v20 : Lv) (v21 : Int) (v22 : Lv) : Option law17_ChainLater_a :=
  (bif (decide (v21 < (v17.length : Int))) then bif (decide (0 ≤ v21)) then (bif (decide ((cI v17 v21 4) ≤ v18)) then (iterF (fun go1 s => law17_ChainLater_6 n go0 go1 v17 v18 v21 v22 s.1 s.2) n ((0, ([] : Lv)) : law17_ChainLater_s1))
  else (chain_At n v10 v11 v12 v13 v14 v15 v16 v17 v18).bind fun y23 =>
  (chain_At n v10 v11 v12 v13 v14 v15 v20 v22 v18).bind fun y26 =>
  (chain_Open n v10 v11 v12 v13 v14 v15 v16 v17 v18).bind fun y29 =>
  (chain_Open n v10 v11 v12 v13 v14 v15 v20 v22 v18).bind fun y31 =>
  (bif (decide (y23.2.2 = 0)) then (bif (decide (y26.2.2 = 0)) then (bif (decide (y29.2 = 0)) then (bif (decide (y31.2 = 0)) then (bif (decide (y23.1 = y26.1)) then (ref16_Ints n y23.2.1 y26.2.1).bind fun y33 =>
  (bif y33 then (ref16_Ints n y29.1 y31.1).bind fun y34 =>
  some y34
  else some false)
  else some false)
  else some false)
  else some false)
  else some false)
  else some false)) else none
  else (chain_At n v10 v11 v12 v13 v14 v15 v16 v17 v18).bind fun y23 =>
  (chain_At n v10 v11 v12 v13 v14 v15 v20 v22 v18).bind fun y26 =>
  (chain_Open n v10 v11 v12 v13 v14 v15 v16 v17 v18).bind fun y29 =>
  (chain_Open n v10 v11 v12 v13 v14 v15 v20 v22 v18).bind fun y31 =>
  (bif (decide (y23.2.2 = 0)) then (bif (decide (y26.2.2 = 0)) then (bif (decide (y29.2 = 0)) then (bif (decide (y31.2 = 0)) then (bif (decide (y23.1 = y26.1)) then (ref16_Ints n y23.2.1 y26.2.1).bind fun y33 =>
  (bif y33 then (ref16_Ints n y29.1 y31.1).bind fun y34 =>
  some y34
  else some false)
  else some false)
  else some false)
  else some false)
  else some false)
  else some false))
def law17_ChainLater_4 (n : Nat) (go0 : law17_ChainLater_s1 → Option law17_ChainLater_a) (v10 v11 v12 v13 v14 v15 : Int) (v16 v17 : Lv) (v18 v19 : Int) (v20 : Lv) : Option law17_ChainLater_a :=
  (bif (decide ((cI v16 v19 1) ≤ v18)) then bif (decide ((((v20.length : Int) + 1) * 24) ≤ 140737488355328)) then bif ((decide ((-9223372036854775808) ≤ (v19 + 1))) && (decide ((v19 + 1) ≤ 9223372036854775807))) then go0 ((v19 + 1), (v20 ++ [[(AV.int (cI v16 v19 0)), (AV.int (cI v16 v19 1)), (AV.int (cI v16 v19 2))]])) else none else none
  else (iterF (fun go0 s => law17_ChainLater_5 n go0 v10 v11 v12 v13 v14 v15 v16 v17 v18 v20 s.1 s.2) n ((0, ([] : Lv)) : law17_ChainLater_s0)))
def law17_ChainLater_8 (n : Nat) (go0 : law17_ChainLater_s0 → Option law17_ChainLater_a) (go1 : law17_ChainLater_s1 → Option law17_ChainLater_a) (v17 : Lv) (v18 v21 : Int) (v22 : Lv) (v23 : Int) (v24 : Lv) : Option law17_ChainLater_a :=
  (bif (decide (v23 < ((cL v17 v21 6).length : Int))) then bif (decide (0 ≤ v23)) then (bif (decide ((cI (cL v17 v21 6) v23 1) ≤ v18)) then bif (decide ((((v24.length : Int) + 1) * 24) ≤ 140737488355328)) then bif ((decide ((-9223372036854775808) ≤ (v23 + 1))) && (decide ((v23 + 1) ≤ 9223372036854775807))) then go1 ((v23 + 1), (v24 ++ [[(AV.int (cI (cL v17 v21 6) v23 0)), (AV.int (cI (cL v17 v21 6) v23 1)), (AV.int (cI (cL v17 v21 6) v23 2))]])) else none else none
  else bif (decide ((((v22.length : Int) + 1) * 72) ≤ 140737488355328)) then bif ((decide ((-9223372036854775808) ≤ (v21 + 1))) && (decide ((v21 + 1) ≤ 9223372036854775807))) then go0 ((v21 + 1), (v22 ++ [[(AV.int (cI v17 v21 0)), (AV.int (cI v17 v21 1)), (AV.int (cI v17 v21 2)), (AV.int (cI v17 v21 3)), (AV.int (cI v17 v21 4)), (AV.bool (cB v17 v21 5)), (AV.sl (.cons .int (.cons .int (.cons .int .nil))) v24)]])) else none else none) else none
  else bif (decide ((((v22.length : Int) + 1) * 72) ≤ 140737488355328)) then bif ((decide ((-9223372036854775808) ≤ (v21 + 1))) && (decide ((v21 + 1) ≤ 9223372036854775807))) then go0 ((v21 + 1), (v22 ++ [[(AV.int (cI v17 v21 0)), (AV.int (cI v17 v21 1)), (AV.int (cI v17 v21 2)), (AV.int (cI v17 v21 3)), (AV.int (cI v17 v21 4)), (AV.bool (cB v17 v21 5)), (AV.sl (.cons .int (.cons .int (.cons .int .nil))) v24)]])) else none else none)
def law17_ChainLater_7 (n : Nat) (go0 : law17_ChainLater_s0 → Option law17_ChainLater_a) (v10 v11 v12 v13 v14 v15 : Int) (v16 v17 : Lv) (v18 : Int) (v20 : Lv) (v21 : Int) (v22 : Lv) : Option law17_ChainLater_a :=
  (bif (decide (v21 < (v17.length : Int))) then bif (decide (0 ≤ v21)) then (bif (decide ((cI v17 v21 4) ≤ v18)) then (iterF (fun go1 s => law17_ChainLater_8 n go0 go1 v17 v18 v21 v22 s.1 s.2) n ((0, ([] : Lv)) : law17_ChainLater_s1))
  else (chain_At n v10 v11 v12 v13 v14 v15 v16 v17 v18).bind fun y23 =>
  (chain_At n v10 v11 v12 v13 v14 v15 v20 v22 v18).bind fun y26 =>
  (chain_Open n v10 v11 v12 v13 v14 v15 v16 v17 v18).bind fun y29 =>
  (chain_Open n v10 v11 v12 v13 v14 v15 v20 v22 v18).bind fun y31 =>
  (bif (decide (y23.2.2 = 0)) then (bif (decide (y26.2.2 = 0)) then (bif (decide (y29.2 = 0)) then (bif (decide (y31.2 = 0)) then (bif (decide (y23.1 = y26.1)) then (ref16_Ints n y23.2.1 y26.2.1).bind fun y33 =>
  (bif y33 then (ref16_Ints n y29.1 y31.1).bind fun y34 =>
  some y34
  else some false)
  else some false)
  else some false)
  else some false)
  else some false)
  else some false)) else none
  else (chain_At n v10 v11 v12 v13 v14 v15 v16 v17 v18).bind fun y23 =>
  (chain_At n v10 v11 v12 v13 v14 v15 v20 v22 v18).bind fun y26 =>
  (chain_Open n v10 v11 v12 v13 v14 v15 v16 v17 v18).bind fun y29 =>
  (chain_Open n v10 v11 v12 v13 v14 v15 v20 v22 v18).bind fun y31 =>
  (bif (decide (y23.2.2 = 0)) then (bif (decide (y26.2.2 = 0)) then (bif (decide (y29.2 = 0)) then (bif (decide (y31.2 = 0)) then (bif (decide (y23.1 = y26.1)) then (ref16_Ints n y23.2.1 y26.2.1).bind fun y33 =>
  (bif y33 then (ref16_Ints n y29.1 y31.1).bind fun y34 =>
  some y34
  else some false)
  else some false)
  else some false)
  else some false)
  else some false)
  else some false))
def law17_ChainLater_3 (n : Nat) (go0 : law17_ChainLater_s1 → Option law17_ChainLater_a) (v10 v11 v12 v13 v14 v15 : Int) (v16 v17 : Lv) (v18 v19 : Int) (v20 : Lv) : Option law17_ChainLater_a :=
  (bif (decide (v19 < (v16.length : Int))) then bif (decide (0 ≤ v19)) then law17_ChainLater_4 n go0 v10 v11 v12 v13 v14 v15 v16 v17 v18 v19 v20 else none
  else (iterF (fun go0 s => law17_ChainLater_7 n go0 v10 v11 v12 v13 v14 v15 v16 v17 v18 v20 s.1 s.2) n ((0, ([] : Lv)) : law17_ChainLater_s0)))
def law17_ChainLater_2 (n : Nat) (v0 v1 v2 v3 v4 v5 : Int) (v6 v7 : Lv) (v8 : Int) (v9 : Bool) : Option law17_ChainLater_a :=
  (bif (!v9) then some false
  else (ref17_Made n v0 v1 v2 v3 v4 v5 v6 v7).bind fun y10 =>
  (ref17_Time n y10.1 y10.2.1 y10.2.2.1 y10.2.2.2.1 y10.2.2.2.2.1 y10.2.2.2.2.2.1 y10.2.2.2.2.2.2.1 y10.2.2.2.2.2.2.2 v8).bind fun y18 =>
  (iterF (fun go0 s => law17_ChainLater_3 n go0 y10.1 y10.2.1 y10.2.2.1 y10.2.2.2.1 y10.2.2.2.2.1 y10.2.2.2.2.2.1 y10.2.2.2.2.2.2.1 y10.2.2.2.2.2.2.2 y18 s.1 s.2) n ((0, ([] : Lv)) : law17_ChainLater_s1)))
def law17_ChainLater_1 (n : Nat) (v0 v1 v2 v3 v4 v5 : Int) (v6 v7 : Lv) (v8 : Int) : Option law17_ChainLater_a :=
  (law17_sane n ).bind fun y9 =>
  law17_ChainLater_2 n v0 v1 v2 v3 v4 v5 v6 v7 v8 y9
def law17_ChainLater (n : Nat) (v0 v1 v2 v3 v4 v5 : Int) (v6 v7 : Lv) (v8 : Int) : Option law17_ChainLater_a := law17_ChainLater_1 n v0 v1 v2 v3 v4 v5 v6 v7 v8
def law17_ChainLater_t : FnT := ⟨[(true, [.int, .int, .int, .int, .int, .int, (.sl (.cons .int (.cons .int (.cons .int .nil)))), (.sl (.cons .int (.cons .int (.cons .int (.cons .int (.cons .int (.cons .int (.cons (.sl (.cons .int (.cons .int (.cons .int .nil)))) (.cons .int .nil)))))))))]), (false, [.int])], .b, fun n (s : Int × Int × Int × Int × Int × Int × Lv × Lv × Int) => law17_ChainLater n s.1 s.2.1 s.2.2.1 s.2.2.2.1 s.2.2.2.2.1 s.2.2.2.2.2.1 s.2.2.2.2.2.2.1 s.2.2.2.2.2.2.2.1 s.2.2.2.2.2.2.2.2⟩
theorem law17_ChainLater_ok : law17_ChainLater_t.ok Try.prog 9 := FnT.ok_of (cfg := ⟨[((9, 7, 7), .inv [(.tmp 8 .int), (.cellrow 5 6 80 (.cons .int (.cons .int (.cons .int .nil))))]), ((9, 11, 9), .inv [(.tmp 9 .int), (.cellrow 5 7 51 (.cons .int (.cons .int (.cons .int (.cons .int (.cons .int (.cons .bool (.cons (.sl (.cons .int (.cons .int (.cons .int .nil)))) .nil))))))))]), ((9, 15, 13), .inv [(.tmp 11 .int), (.cellrow 11 6 82 (.cons .int (.cons .int (.cons .int .nil))))])], consE9, [], mapsE9⟩) (tab := law17_sane_T) (mt := mtE) pfit law17_sane_T_ok mtE_ok (fun s fn hf => by rw [Try.func9] at hf; cases hf; kernel_rfl) (fun n s => by kernel_rfl)
def law17_ChainLater_T : Tab := (9, law17_ChainLater_t) :: law17_sane_T
theorem law17_ChainLater_T_ok : law17_ChainLater_T.ok Try.prog := Tab.ok_cons law17_ChainLater_ok law17_sane_T_ok
end
end Go.Proofs.Ytjllgiddmeiaoaa
