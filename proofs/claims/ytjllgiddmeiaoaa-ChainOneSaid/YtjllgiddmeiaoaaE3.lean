/-
  Plain functions for functions of the program, each with its contract (printed by decomp.py).
-/
import Derived.Test.YtjllgiddmeiaoaaSxP
import Derived.Test.YtjllgiddmeiaoaaSx25
import Derived.Test.YtjllgiddmeiaoaaDS
set_option linter.unusedSimpArgs false
set_option linter.unusedVariables false
set_option maxRecDepth 100000
namespace Go.Proofs.Ytjllgiddmeiaoaa
open Go Go.Sx
noncomputable section
def consE3 : List Nat := [12, 13, 14, 15, 16, 17, 18, 19, 20, 21, 22, 23, 24, 25, 26, 27, 28, 29, 30, 31, 32, 33, 34, 35, 36, 37, 38, 41, 42, 43, 47, 49, 50, 52, 53, 54, 56, 57, 58, 61, 64, 79, 80, 82, 83, 84, 86, 87, 88, 89, 90, 100, 101, 106]
def mapsE3 : List (Nat × SV × SV) := [(69, SV.of [.agg (SV.of [.vi (.int 1), .vi (.int 1)]), .agg (SV.of [.vi (.int 2), .vi (.int 1)]), .agg (SV.of [.vi (.int 3), .vi (.int 2)]), .agg (SV.of [.vi (.int 4), .vi (.int 2)]), .agg (SV.of [.vi (.int 5), .vi (.int 1)]), .agg (SV.of [.vi (.int 5), .vi (.int 2)]), .agg (SV.of [.vi (.int 5), .vi (.int 3)]), .agg (SV.of [.vi (.int 6), .vi (.int 4)])], SV.of [.vi (.int 3), .vi (.int 2), .vi (.int 3), .vi (.int 6), .vi (.int 7), .vi (.int 7), .vi (.int 7), .vi (.int 8)])]
/-! dialtone/dialtonelaw17.ChainOne -/
abbrev law17_ChainOne_a := Bool
abbrev law17_ChainOne_s0 := Int × Int
abbrev law17_ChainOne_s1 := Int
def law17_ChainOne_4 (n : Nat) (go0 : law17_ChainOne_s0 → Option law17_ChainOne_a) (v17 : Lv) (v21 : Int) (v22 : Lv) (v25 v26 : Int) : Option law17_ChainOne_a :=
  (bif (decide (v26 < (v22.length : Int))) then bif (decide (0 ≤ v26)) then (bif (decide ((cI v22 v26 0) < 0)) then some false
  else (bif (decide ((v17.length : Int) ≤ (cI v22 v26 0))) then some false
  else bif (decide (0 ≤ (cI v22 v26 0))) then bif (decide ((cI v22 v26 0) < (v17.length : Int))) then (bif (!(decide ((cI v17 (cI v22 v26 0) 1) = v25))) then some false
  else bif ((decide ((-9223372036854775808) ≤ (v26 + 1))) && (decide ((v26 + 1) ≤ 9223372036854775807))) then go0 ((cI v17 (cI v22 v26 0) 2), (v26 + 1)) else none) else none else none)) else none
  else some (decide (v25 = v21)))
def law17_ChainOne_3 (n : Nat) (go0 : law17_ChainOne_s1 → Option law17_ChainOne_a) (v11 : Int) (v17 : Lv) (v18 : Int) (v19 : Lv) (v21 : Int) (v22 : Lv) (v24 : Int) : Option law17_ChainOne_a :=
  (bif (decide (v24 < (v19.length : Int))) then bif (decide (0 ≤ v24)) then (bif (decide ((cI v19 v24 2) ≤ (cI v19 v24 1))) then some false
  else (bif (decide (0 < v24)) then bif ((decide ((-9223372036854775808) ≤ (v24 - 1))) && (decide ((v24 - 1) ≤ 9223372036854775807))) then bif (decide (0 ≤ (v24 - 1))) then bif (decide ((v24 - 1) < (v19.length : Int))) then (bif (!(decide ((cI v19 v24 1) = (cI v19 (v24 - 1) 2)))) then some false
  else (bif (decide ((cI v19 v24 0) = (cI v19 (v24 - 1) 0))) then some false
  else (bif (decide ((cI v19 v24 1) ≤ v18)) then (bif (decide (v18 < (cI v19 v24 2))) then (bif (!(decide ((cI v19 v24 0) = v21))) then some false
  else bif ((decide ((-9223372036854775808) ≤ (v24 + 1))) && (decide ((v24 + 1) ≤ 9223372036854775807))) then go0 (v24 + 1) else none)
  else bif ((decide ((-9223372036854775808) ≤ (v24 + 1))) && (decide ((v24 + 1) ≤ 9223372036854775807))) then go0 (v24 + 1) else none)
  else bif ((decide ((-9223372036854775808) ≤ (v24 + 1))) && (decide ((v24 + 1) ≤ 9223372036854775807))) then go0 (v24 + 1) else none))) else none else none else none
  else (bif (decide ((cI v19 v24 1) ≤ v18)) then (bif (decide (v18 < (cI v19 v24 2))) then (bif (!(decide ((cI v19 v24 0) = v21))) then some false
  else bif ((decide ((-9223372036854775808) ≤ (v24 + 1))) && (decide ((v24 + 1) ≤ 9223372036854775807))) then go0 (v24 + 1) else none)
  else bif ((decide ((-9223372036854775808) ≤ (v24 + 1))) && (decide ((v24 + 1) ≤ 9223372036854775807))) then go0 (v24 + 1) else none)
  else bif ((decide ((-9223372036854775808) ≤ (v24 + 1))) && (decide ((v24 + 1) ≤ 9223372036854775807))) then go0 (v24 + 1) else none))) else none
  else (iterF (fun go0 s => law17_ChainOne_4 n go0 v17 v21 v22 s.1 s.2) n ((v11, 0) : law17_ChainOne_s0)))
def law17_ChainOne_2 (n : Nat) (v0 v1 v2 v3 v4 v5 : Int) (v6 v7 : Lv) (v8 : Int) (v9 : Bool) : Option law17_ChainOne_a :=
  (bif (!v9) then some false
  else (ref17_Made n v0 v1 v2 v3 v4 v5 v6 v7).bind fun y10 =>
  (ref17_Time n y10.1 y10.2.1 y10.2.2.1 y10.2.2.2.1 y10.2.2.2.2.1 y10.2.2.2.2.2.1 y10.2.2.2.2.2.2.1 y10.2.2.2.2.2.2.2 v8).bind fun y18 =>
  (chain_Holders n y10.1 y10.2.1 y10.2.2.1 y10.2.2.2.1 y10.2.2.2.2.1 y10.2.2.2.2.2.1 y10.2.2.2.2.2.2.1 y10.2.2.2.2.2.2.2).bind fun y19 =>
  (chain_At n y10.1 y10.2.1 y10.2.2.1 y10.2.2.2.1 y10.2.2.2.2.1 y10.2.2.2.2.2.1 y10.2.2.2.2.2.2.1 y10.2.2.2.2.2.2.2 y18).bind fun y21 =>
  (bif (!(decide (y19.2 = 0))) then some false
  else (bif (!(decide (y21.2.2 = 0))) then some false
  else (bif (decide ((y19.1.length : Int) = 0)) then some false
  else bif (decide (0 < (y19.1.length : Int))) then (bif (!(decide ((cI y19.1 0 1) = 0))) then some false
  else bif ((decide ((-9223372036854775808) ≤ ((y19.1.length : Int) - 1))) && (decide (((y19.1.length : Int) - 1) ≤ 9223372036854775807))) then bif (decide (0 ≤ ((y19.1.length : Int) - 1))) then bif (decide (((y19.1.length : Int) - 1) < (y19.1.length : Int))) then (bif (!(decide ((cI y19.1 ((y19.1.length : Int) - 1) 2) = 20000001))) then some false
  else (iterF (fun go0 s => law17_ChainOne_3 n go0 y10.2.1 y10.2.2.2.2.2.2.2 y18 y19.1 y21.1 y21.2.1 s) n (0 : law17_ChainOne_s1))) else none else none else none) else none))))
def law17_ChainOne_1 (n : Nat) (v0 v1 v2 v3 v4 v5 : Int) (v6 v7 : Lv) (v8 : Int) : Option law17_ChainOne_a :=
  (law17_sane n ).bind fun y9 =>
  law17_ChainOne_2 n v0 v1 v2 v3 v4 v5 v6 v7 v8 y9
def law17_ChainOne (n : Nat) (v0 v1 v2 v3 v4 v5 : Int) (v6 v7 : Lv) (v8 : Int) : Option law17_ChainOne_a := law17_ChainOne_1 n v0 v1 v2 v3 v4 v5 v6 v7 v8
def law17_ChainOne_t : FnT := ⟨[(true, [.int, .int, .int, .int, .int, .int, (.sl (.cons .int (.cons .int (.cons .int .nil)))), (.sl (.cons .int (.cons .int (.cons .int (.cons .int (.cons .int (.cons .int (.cons (.sl (.cons .int (.cons .int (.cons .int .nil)))) (.cons .int .nil)))))))))]), (false, [.int])], .b, fun n (s : Int × Int × Int × Int × Int × Int × Lv × Lv × Int) => law17_ChainOne n s.1 s.2.1 s.2.2.1 s.2.2.2.1 s.2.2.2.2.1 s.2.2.2.2.2.1 s.2.2.2.2.2.2.1 s.2.2.2.2.2.2.2.1 s.2.2.2.2.2.2.2.2⟩
theorem law17_ChainOne_ok : law17_ChainOne_t.ok Try.prog 3 := FnT.ok_of (cfg := ⟨[((3, 10, 7), .inv [(.tmp 12 .int)]), ((3, 17, 8), .inv [(.tmp 14 .int), (.tmp 15 .int)])], consE3, [], mapsE3⟩) (tab := law17_sane_T) (mt := mtE) pfit law17_sane_T_ok mtE_ok (fun s fn hf => by rw [Try.func3] at hf; cases hf; kernel_rfl) (fun n s => by kernel_rfl)
def law17_ChainOne_T : Tab := (3, law17_ChainOne_t) :: law17_sane_T
theorem law17_ChainOne_T_ok : law17_ChainOne_T.ok Try.prog := Tab.ok_cons law17_ChainOne_ok law17_sane_T_ok
end
end Go.Proofs.Ytjllgiddmeiaoaa
