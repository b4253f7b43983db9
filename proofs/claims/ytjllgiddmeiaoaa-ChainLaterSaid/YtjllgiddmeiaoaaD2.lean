/-
  Plain functions for functions of the program, each with its contract (printed by decomp.py).
-/
import Derived.Test.YtjllgiddmeiaoaaSxP
import Derived.Test.YtjllgiddmeiaoaaSx25
import Derived.Test.YtjllgiddmeiaoaaD1
set_option linter.unusedSimpArgs false
set_option linter.unusedVariables false
set_option maxRecDepth 100000
namespace Go.Proofs.Ytjllgiddmeiaoaa
open Go Go.Sx
noncomputable section
def consD2 : List Nat := [12, 13, 14, 15, 16, 17, 18, 19, 20, 21, 22, 23, 24, 25, 26, 27, 28, 29, 30, 31, 32, 33, 34, 35, 36, 37, 38, 41, 42, 43, 47, 49, 50, 52, 53, 54, 56, 57, 58, 61, 64, 79, 80, 82, 83, 84, 86, 87, 88, 89, 90, 100, 101, 106]
def mapsD2 : List (Nat × SV × SV) := [(69, SV.of [.agg (SV.of [.vi (.int 1), .vi (.int 1)]), .agg (SV.of [.vi (.int 2), .vi (.int 1)]), .agg (SV.of [.vi (.int 3), .vi (.int 2)]), .agg (SV.of [.vi (.int 4), .vi (.int 2)]), .agg (SV.of [.vi (.int 5), .vi (.int 1)]), .agg (SV.of [.vi (.int 5), .vi (.int 2)]), .agg (SV.of [.vi (.int 5), .vi (.int 3)]), .agg (SV.of [.vi (.int 6), .vi (.int 4)])], SV.of [.vi (.int 3), .vi (.int 2), .vi (.int 3), .vi (.int 6), .vi (.int 7), .vi (.int 7), .vi (.int 7), .vi (.int 8)])]
/-! dialtone/dialtoneref16.pick -/
abbrev ref16_pick_a := Int
def ref16_pick_1 (n : Nat) (v0 v1 : Int) : Option ref16_pick_a :=
  (bif (decide (v0 < 0)) then bif ((decide ((-9223372036854775808) ≤ (v0 + 1))) && (decide ((v0 + 1) ≤ 9223372036854775807))) then bif ((decide ((-9223372036854775808) ≤ (0 - (v0 + 1)))) && (decide ((0 - (v0 + 1)) ≤ 9223372036854775807))) then bif (!(decide (v1 = 0))) then some (Int.tmod (0 - (v0 + 1)) v1) else none else none else none
  else bif (!(decide (v1 = 0))) then some (Int.tmod v0 v1) else none)
def ref16_pick (n : Nat) (v0 v1 : Int) : Option ref16_pick_a := ref16_pick_1 n v0 v1
def ref16_pick_t : FnT := ⟨[(false, [.int]), (false, [.int])], .i, fun n (s : Int × Int) => ref16_pick n s.1 s.2⟩
theorem ref16_pick_ok : ref16_pick_t.ok Try.prog 50 := FnT.ok_of (cfg := ⟨[], consD2, [], mapsD2⟩) (tab := life_At_T) (mt := mt0) pfit life_At_T_ok mt0_ok (fun s fn hf => by rw [Try.func50] at hf; cases hf; kernel_rfl) (fun n s => by kernel_rfl)
def ref16_pick_T : Tab := (50, ref16_pick_t) :: life_At_T
theorem ref16_pick_T_ok : ref16_pick_T.ok Try.prog := Tab.ok_cons ref16_pick_ok life_At_T_ok
/-! dialtone/dialtoneref16.MadeRules -/
abbrev ref16_MadeRules_a := Int × Int × Int × Int
def ref16_MadeRules_2 (n : Nat) (v0 v1 v2 v3 v4 v5 : Int) : Option ref16_MadeRules_a :=
  (bif (decide (v5 = 3)) then (ref16_pick n v0 86400).bind fun y6 =>
  bif ((decide ((-9223372036854775808) ≤ (1 + y6))) && (decide ((1 + y6) ≤ 9223372036854775807))) then (ref16_pick n v1 12).bind fun y7 =>
  bif ((decide ((-9223372036854775808) ≤ (1 + y7))) && (decide ((1 + y7) ≤ 9223372036854775807))) then bif ((decide ((-9223372036854775808) ≤ (Int.tdiv v1 16))) && (decide ((Int.tdiv v1 16) ≤ 9223372036854775807))) then (ref16_pick n (Int.tdiv v1 16) 4).bind fun y8 =>
  (bif (decide (y8 = 3)) then (ref16_pick n v1 86400).bind fun y9 =>
  bif ((decide ((-9223372036854775808) ≤ (1 + y9))) && (decide ((1 + y9) ≤ 9223372036854775807))) then (ref16_pick n v2 12).bind fun y10 =>
  bif ((decide ((-9223372036854775808) ≤ (1 + y10))) && (decide ((1 + y10) ≤ 9223372036854775807))) then bif ((decide ((-9223372036854775808) ≤ (Int.tdiv v2 16))) && (decide ((Int.tdiv v2 16) ≤ 9223372036854775807))) then (ref16_pick n (Int.tdiv v2 16) 4).bind fun y11 =>
  (bif (decide (y11 = 3)) then (ref16_pick n v2 86400).bind fun y12 =>
  bif ((decide ((-9223372036854775808) ≤ (1 + y12))) && (decide ((1 + y12) ≤ 9223372036854775807))) then (ref16_pick n v3 12).bind fun y13 =>
  bif ((decide ((-9223372036854775808) ≤ (1 + y13))) && (decide ((1 + y13) ≤ 9223372036854775807))) then bif ((decide ((-9223372036854775808) ≤ (Int.tdiv v3 16))) && (decide ((Int.tdiv v3 16) ≤ 9223372036854775807))) then (ref16_pick n (Int.tdiv v3 16) 4).bind fun y14 =>
  (bif (decide (y14 = 3)) then (ref16_pick n v3 86400).bind fun y15 =>
  bif ((decide ((-9223372036854775808) ≤ (1 + y15))) && (decide ((1 + y15) ≤ 9223372036854775807))) then some ((1 + y6), (1 + y9), (1 + y12), (1 + y15)) else none
  else some ((1 + y6), (1 + y9), (1 + y12), (1 + y13))) else none else none else none
  else (ref16_pick n v3 12).bind fun y12 =>
  bif ((decide ((-9223372036854775808) ≤ (1 + y12))) && (decide ((1 + y12) ≤ 9223372036854775807))) then bif ((decide ((-9223372036854775808) ≤ (Int.tdiv v3 16))) && (decide ((Int.tdiv v3 16) ≤ 9223372036854775807))) then (ref16_pick n (Int.tdiv v3 16) 4).bind fun y13 =>
  (bif (decide (y13 = 3)) then (ref16_pick n v3 86400).bind fun y14 =>
  bif ((decide ((-9223372036854775808) ≤ (1 + y14))) && (decide ((1 + y14) ≤ 9223372036854775807))) then some ((1 + y6), (1 + y9), (1 + y10), (1 + y14)) else none
  else some ((1 + y6), (1 + y9), (1 + y10), (1 + y12))) else none else none) else none else none else none
  else (ref16_pick n v2 12).bind fun y9 =>
  bif ((decide ((-9223372036854775808) ≤ (1 + y9))) && (decide ((1 + y9) ≤ 9223372036854775807))) then bif ((decide ((-9223372036854775808) ≤ (Int.tdiv v2 16))) && (decide ((Int.tdiv v2 16) ≤ 9223372036854775807))) then (ref16_pick n (Int.tdiv v2 16) 4).bind fun y10 =>
  (bif (decide (y10 = 3)) then (ref16_pick n v2 86400).bind fun y11 =>
  bif ((decide ((-9223372036854775808) ≤ (1 + y11))) && (decide ((1 + y11) ≤ 9223372036854775807))) then (ref16_pick n v3 12).bind fun y12 =>
  bif ((decide ((-9223372036854775808) ≤ (1 + y12))) && (decide ((1 + y12) ≤ 9223372036854775807))) then bif ((decide ((-9223372036854775808) ≤ (Int.tdiv v3 16))) && (decide ((Int.tdiv v3 16) ≤ 9223372036854775807))) then (ref16_pick n (Int.tdiv v3 16) 4).bind fun y13 =>
  (bif (decide (y13 = 3)) then (ref16_pick n v3 86400).bind fun y14 =>
  bif ((decide ((-9223372036854775808) ≤ (1 + y14))) && (decide ((1 + y14) ≤ 9223372036854775807))) then some ((1 + y6), (1 + y7), (1 + y11), (1 + y14)) else none
  else some ((1 + y6), (1 + y7), (1 + y11), (1 + y12))) else none else none else none
  else (ref16_pick n v3 12).bind fun y11 =>
  bif ((decide ((-9223372036854775808) ≤ (1 + y11))) && (decide ((1 + y11) ≤ 9223372036854775807))) then bif ((decide ((-9223372036854775808) ≤ (Int.tdiv v3 16))) && (decide ((Int.tdiv v3 16) ≤ 9223372036854775807))) then (ref16_pick n (Int.tdiv v3 16) 4).bind fun y12 =>
  (bif (decide (y12 = 3)) then (ref16_pick n v3 86400).bind fun y13 =>
  bif ((decide ((-9223372036854775808) ≤ (1 + y13))) && (decide ((1 + y13) ≤ 9223372036854775807))) then some ((1 + y6), (1 + y7), (1 + y9), (1 + y13)) else none
  else some ((1 + y6), (1 + y7), (1 + y9), (1 + y11))) else none else none) else none else none) else none else none else none
  else (ref16_pick n v1 12).bind fun y6 =>
  bif ((decide ((-9223372036854775808) ≤ (1 + y6))) && (decide ((1 + y6) ≤ 9223372036854775807))) then bif ((decide ((-9223372036854775808) ≤ (Int.tdiv v1 16))) && (decide ((Int.tdiv v1 16) ≤ 9223372036854775807))) then (ref16_pick n (Int.tdiv v1 16) 4).bind fun y7 =>
  (bif (decide (y7 = 3)) then (ref16_pick n v1 86400).bind fun y8 =>
  bif ((decide ((-9223372036854775808) ≤ (1 + y8))) && (decide ((1 + y8) ≤ 9223372036854775807))) then (ref16_pick n v2 12).bind fun y9 =>
  bif ((decide ((-9223372036854775808) ≤ (1 + y9))) && (decide ((1 + y9) ≤ 9223372036854775807))) then bif ((decide ((-9223372036854775808) ≤ (Int.tdiv v2 16))) && (decide ((Int.tdiv v2 16) ≤ 9223372036854775807))) then (ref16_pick n (Int.tdiv v2 16) 4).bind fun y10 =>
  (bif (decide (y10 = 3)) then (ref16_pick n v2 86400).bind fun y11 =>
  bif ((decide ((-9223372036854775808) ≤ (1 + y11))) && (decide ((1 + y11) ≤ 9223372036854775807))) then (ref16_pick n v3 12).bind fun y12 =>
  bif ((decide ((-9223372036854775808) ≤ (1 + y12))) && (decide ((1 + y12) ≤ 9223372036854775807))) then bif ((decide ((-9223372036854775808) ≤ (Int.tdiv v3 16))) && (decide ((Int.tdiv v3 16) ≤ 9223372036854775807))) then (ref16_pick n (Int.tdiv v3 16) 4).bind fun y13 =>
  (bif (decide (y13 = 3)) then (ref16_pick n v3 86400).bind fun y14 =>
  bif ((decide ((-9223372036854775808) ≤ (1 + y14))) && (decide ((1 + y14) ≤ 9223372036854775807))) then some ((1 + v4), (1 + y8), (1 + y11), (1 + y14)) else none
  else some ((1 + v4), (1 + y8), (1 + y11), (1 + y12))) else none else none else none
  else (ref16_pick n v3 12).bind fun y11 =>
  bif ((decide ((-9223372036854775808) ≤ (1 + y11))) && (decide ((1 + y11) ≤ 9223372036854775807))) then bif ((decide ((-9223372036854775808) ≤ (Int.tdiv v3 16))) && (decide ((Int.tdiv v3 16) ≤ 9223372036854775807))) then (ref16_pick n (Int.tdiv v3 16) 4).bind fun y12 =>
  (bif (decide (y12 = 3)) then (ref16_pick n v3 86400).bind fun y13 =>
  bif ((decide ((-9223372036854775808) ≤ (1 + y13))) && (decide ((1 + y13) ≤ 9223372036854775807))) then some ((1 + v4), (1 + y8), (1 + y9), (1 + y13)) else none
  else some ((1 + v4), (1 + y8), (1 + y9), (1 + y11))) else none else none) else none else none else none
  else (ref16_pick n v2 12).bind fun y8 =>
  bif ((decide ((-9223372036854775808) ≤ (1 + y8))) && (decide ((1 + y8) ≤ 9223372036854775807))) then bif ((decide ((-9223372036854775808) ≤ (Int.tdiv v2 16))) && (decide ((Int.tdiv v2 16) ≤ 9223372036854775807))) then (ref16_pick n (Int.tdiv v2 16) 4).bind fun y9 =>
  (bif (decide (y9 = 3)) then (ref16_pick n v2 86400).bind fun y10 =>
  bif ((decide ((-9223372036854775808) ≤ (1 + y10))) && (decide ((1 + y10) ≤ 9223372036854775807))) then (ref16_pick n v3 12).bind fun y11 =>
  bif ((decide ((-9223372036854775808) ≤ (1 + y11))) && (decide ((1 + y11) ≤ 9223372036854775807))) then bif ((decide ((-9223372036854775808) ≤ (Int.tdiv v3 16))) && (decide ((Int.tdiv v3 16) ≤ 9223372036854775807))) then (ref16_pick n (Int.tdiv v3 16) 4).bind fun y12 =>
  (bif (decide (y12 = 3)) then (ref16_pick n v3 86400).bind fun y13 =>
  bif ((decide ((-9223372036854775808) ≤ (1 + y13))) && (decide ((1 + y13) ≤ 9223372036854775807))) then some ((1 + v4), (1 + y6), (1 + y10), (1 + y13)) else none
  else some ((1 + v4), (1 + y6), (1 + y10), (1 + y11))) else none else none else none
  else (ref16_pick n v3 12).bind fun y10 =>
  bif ((decide ((-9223372036854775808) ≤ (1 + y10))) && (decide ((1 + y10) ≤ 9223372036854775807))) then bif ((decide ((-9223372036854775808) ≤ (Int.tdiv v3 16))) && (decide ((Int.tdiv v3 16) ≤ 9223372036854775807))) then (ref16_pick n (Int.tdiv v3 16) 4).bind fun y11 =>
  (bif (decide (y11 = 3)) then (ref16_pick n v3 86400).bind fun y12 =>
  bif ((decide ((-9223372036854775808) ≤ (1 + y12))) && (decide ((1 + y12) ≤ 9223372036854775807))) then some ((1 + v4), (1 + y6), (1 + y8), (1 + y12)) else none
  else some ((1 + v4), (1 + y6), (1 + y8), (1 + y10))) else none else none) else none else none) else none else none)
def ref16_MadeRules_1 (n : Nat) (v0 v1 v2 v3 : Int) : Option ref16_MadeRules_a :=
  (ref16_pick n v0 12).bind fun y4 =>
  bif ((decide ((-9223372036854775808) ≤ (1 + y4))) && (decide ((1 + y4) ≤ 9223372036854775807))) then bif ((decide ((-9223372036854775808) ≤ (Int.tdiv v0 16))) && (decide ((Int.tdiv v0 16) ≤ 9223372036854775807))) then (ref16_pick n (Int.tdiv v0 16) 4).bind fun y5 =>
  ref16_MadeRules_2 n v0 v1 v2 v3 y4 y5 else none else none
def ref16_MadeRules (n : Nat) (v0 v1 v2 v3 : Int) : Option ref16_MadeRules_a := ref16_MadeRules_1 n v0 v1 v2 v3
def ref16_MadeRules_t : FnT := ⟨[(true, [.int, .int, .int, .int])], (.agg (.cons .i (.cons .i (.cons .i (.cons .i .nil))))), fun n (s : Int × Int × Int × Int) => ref16_MadeRules n s.1 s.2.1 s.2.2.1 s.2.2.2⟩
theorem ref16_MadeRules_ok : ref16_MadeRules_t.ok Try.prog 34 := FnT.ok_of (cfg := ⟨[((34, 3, 0), .unroll 5)], consD2, [], mapsD2⟩) (tab := ref16_pick_T) (mt := mt0) pfit ref16_pick_T_ok mt0_ok (fun s fn hf => by rw [Try.func34] at hf; cases hf; kernel_rfl) (fun n s => by kernel_rfl)
def ref16_MadeRules_T : Tab := (34, ref16_MadeRules_t) :: ref16_pick_T
theorem ref16_MadeRules_T_ok : ref16_MadeRules_T.ok Try.prog := Tab.ok_cons ref16_MadeRules_ok ref16_pick_T_ok
/-! dialtone/dialtoneref16.Rules -/
abbrev ref16_Rules_a := Bool
def ref16_Rules_1 (n : Nat) (v0 v1 v2 v3 : Int) : Option ref16_Rules_a :=
  (bif (decide (1 ≤ v0)) then (bif (decide (v0 ≤ 1000000)) then (bif (decide (1 ≤ v1)) then (bif (decide (v1 ≤ 1000000)) then (bif (decide (1 ≤ v2)) then (bif (decide (v2 ≤ 1000000)) then (bif (decide (1 ≤ v3)) then some (decide (v3 ≤ 1000000))
  else some false)
  else some false)
  else some false)
  else some false)
  else some false)
  else some false)
  else some false)
def ref16_Rules (n : Nat) (v0 v1 v2 v3 : Int) : Option ref16_Rules_a := ref16_Rules_1 n v0 v1 v2 v3
def ref16_Rules_t : FnT := ⟨[(true, [.int, .int, .int, .int])], .b, fun n (s : Int × Int × Int × Int) => ref16_Rules n s.1 s.2.1 s.2.2.1 s.2.2.2⟩
theorem ref16_Rules_ok : ref16_Rules_t.ok Try.prog 86 := FnT.ok_of (cfg := ⟨[], consD2, [], mapsD2⟩) (tab := ref16_MadeRules_T) (mt := mt0) pfit ref16_MadeRules_T_ok mt0_ok (fun s fn hf => by rw [Try.func86] at hf; cases hf; kernel_rfl) (fun n s => by kernel_rfl)
def ref16_Rules_T : Tab := (86, ref16_Rules_t) :: ref16_MadeRules_T
theorem ref16_Rules_T_ok : ref16_Rules_T.ok Try.prog := Tab.ok_cons ref16_Rules_ok ref16_MadeRules_T_ok
/-! dialtone/dialtoneref16.Claim -/
abbrev ref16_Claim_a := Bool
def ref16_Claim_1 (n : Nat) (v0 v1 v2 v3 v4 : Int) : Option ref16_Claim_a :=
  (bif (decide (0 ≤ v0)) then (bif (decide (v0 ≤ 99999999)) then (bif (decide (0 ≤ v1)) then (bif (decide (v1 ≤ 7)) then (bif (decide (0 ≤ v2)) then (bif (decide (v2 ≤ 7)) then (bif (!(decide (v1 = v2))) then (bif (decide (0 ≤ v3)) then (bif (decide (v3 ≤ 63)) then (bif (decide (0 ≤ v4)) then some (decide (v4 ≤ 10000000))
  else some false)
  else some false)
  else some false)
  else some false)
  else some false)
  else some false)
  else some false)
  else some false)
  else some false)
  else some false)
def ref16_Claim (n : Nat) (v0 v1 v2 v3 v4 : Int) (v5 : Bool) : Option ref16_Claim_a := ref16_Claim_1 n v0 v1 v2 v3 v4
def ref16_Claim_t : FnT := ⟨[(true, [.int, .int, .int, .int, .int, .bool])], .b, fun n (s : Int × Int × Int × Int × Int × Bool) => ref16_Claim n s.1 s.2.1 s.2.2.1 s.2.2.2.1 s.2.2.2.2.1 s.2.2.2.2.2⟩
theorem ref16_Claim_ok : ref16_Claim_t.ok Try.prog 87 := FnT.ok_of (cfg := ⟨[], consD2, [], mapsD2⟩) (tab := ref16_Rules_T) (mt := mt0) pfit ref16_Rules_T_ok mt0_ok (fun s fn hf => by rw [Try.func87] at hf; cases hf; kernel_rfl) (fun n s => by kernel_rfl)
def ref16_Claim_T : Tab := (87, ref16_Claim_t) :: ref16_Rules_T
theorem ref16_Claim_T_ok : ref16_Claim_T.ok Try.prog := Tab.ok_cons ref16_Claim_ok ref16_Rules_T_ok
/-! dialtone/dialtoneref16.Valid -/
abbrev ref16_Valid_a := Bool
abbrev ref16_Valid_s0 := Int × Int
def ref16_Valid_2 (n : Nat) (go0 : ref16_Valid_s0 → Option ref16_Valid_a) (v10 : Lv) (v13 v14 : Int) : Option ref16_Valid_a :=
  (bif (decide (v14 < (v10.length : Int))) then bif (decide (0 ≤ v14)) then (bif (decide (1 ≤ (cI v10 v14 0))) then (bif (!(decide ((cI v10 v14 0) ≤ 6))) then some false
  else (bif (decide (v13 ≤ (cI v10 v14 1))) then (bif (!(decide ((cI v10 v14 1) ≤ 20000000))) then some false
  else (bif (decide ((cI v10 v14 0) = 2)) then (bif (decide (1 ≤ (cI v10 v14 2))) then (bif (!(decide ((cI v10 v14 2) ≤ 9))) then some false
  else bif ((decide ((-9223372036854775808) ≤ (v14 + 1))) && (decide ((v14 + 1) ≤ 9223372036854775807))) then go0 ((cI v10 v14 1), (v14 + 1)) else none)
  else some false)
  else (bif (decide ((cI v10 v14 0) = 6)) then (bif (decide (1 ≤ (cI v10 v14 2))) then (bif (!(decide ((cI v10 v14 2) ≤ 9))) then some false
  else bif ((decide ((-9223372036854775808) ≤ (v14 + 1))) && (decide ((v14 + 1) ≤ 9223372036854775807))) then go0 ((cI v10 v14 1), (v14 + 1)) else none)
  else some false)
  else (bif (!(decide ((cI v10 v14 2) = 0))) then some false
  else bif ((decide ((-9223372036854775808) ≤ (v14 + 1))) && (decide ((v14 + 1) ≤ 9223372036854775807))) then go0 ((cI v10 v14 1), (v14 + 1)) else none))))
  else some false))
  else some false) else none
  else some true)
def ref16_Valid_1 (n : Nat) (v0 v1 v2 v3 v4 v5 v6 v7 v8 : Int) (v9 : Bool) (v10 : Lv) : Option ref16_Valid_a :=
  (ref16_Rules n v0 v1 v2 v3).bind fun y11 =>
  (bif (!y11) then some false
  else (ref16_Claim n v4 v5 v6 v7 v8 v9).bind fun y12 =>
  (bif (!y12) then some false
  else (bif (decide (20 < (v10.length : Int))) then some false
  else (iterF (fun go0 s => ref16_Valid_2 n go0 v10 s.1 s.2) n ((v8, 0) : ref16_Valid_s0)))))
def ref16_Valid (n : Nat) (v0 v1 v2 v3 v4 v5 v6 v7 v8 : Int) (v9 : Bool) (v10 : Lv) : Option ref16_Valid_a := ref16_Valid_1 n v0 v1 v2 v3 v4 v5 v6 v7 v8 v9 v10
def ref16_Valid_t : FnT := ⟨[(true, [.int, .int, .int, .int]), (true, [.int, .int, .int, .int, .int, .bool]), (false, [(.sl (.cons .int (.cons .int (.cons .int .nil))))])], .b, fun n (s : Int × Int × Int × Int × Int × Int × Int × Int × Int × Bool × Lv) => ref16_Valid n s.1 s.2.1 s.2.2.1 s.2.2.2.1 s.2.2.2.2.1 s.2.2.2.2.2.1 s.2.2.2.2.2.2.1 s.2.2.2.2.2.2.2.1 s.2.2.2.2.2.2.2.2.1 s.2.2.2.2.2.2.2.2.2.1 s.2.2.2.2.2.2.2.2.2.2⟩
theorem ref16_Valid_ok : ref16_Valid_t.ok Try.prog 57 := FnT.ok_of (cfg := ⟨[((57, 5, 2), .inv [(.tmp 7 .int), (.tmp 8 .int)])], consD2, [], mapsD2⟩) (tab := ref16_Claim_T) (mt := mt0) pfit ref16_Claim_T_ok mt0_ok (fun s fn hf => by rw [Try.func57] at hf; cases hf; kernel_rfl) (fun n s => by kernel_rfl)
def ref16_Valid_T : Tab := (57, ref16_Valid_t) :: ref16_Claim_T
theorem ref16_Valid_T_ok : ref16_Valid_T.ok Try.prog := Tab.ok_cons ref16_Valid_ok ref16_Claim_T_ok
/-! dialtone/dialtoneref16.status -/
abbrev ref16_status_a := Int × Int × Int
def ref16_status_1 (n : Nat) (v0 v1 v2 v3 v4 v5 : Int) : Option ref16_status_a :=
  (bif (decide (v4 = 1)) then bif ((decide ((-9223372036854775808) ≤ (v5 + v0))) && (decide ((v5 + v0) ≤ 9223372036854775807))) then some (v4, v5, (v5 + v0)) else none
  else (bif (decide (v4 = 2)) then bif ((decide ((-9223372036854775808) ≤ (v5 + v2))) && (decide ((v5 + v2) ≤ 9223372036854775807))) then some (v4, v5, (v5 + v2)) else none
  else (bif (decide (v4 = 3)) then bif ((decide ((-9223372036854775808) ≤ (v5 + v1))) && (decide ((v5 + v1) ≤ 9223372036854775807))) then some (v4, v5, (v5 + v1)) else none
  else (bif (decide (v4 = 4)) then bif ((decide ((-9223372036854775808) ≤ (v5 + v3))) && (decide ((v5 + v3) ≤ 9223372036854775807))) then some (v4, v5, (v5 + v3)) else none
  else some (v4, v5, (-1))))))
def ref16_status (n : Nat) (v0 v1 v2 v3 v4 v5 : Int) : Option ref16_status_a := ref16_status_1 n v0 v1 v2 v3 v4 v5
def ref16_status_t : FnT := ⟨[(true, [.int, .int, .int, .int]), (false, [.int]), (false, [.int])], (.agg (.cons .i (.cons .i (.cons .i .nil)))), fun n (s : Int × Int × Int × Int × Int × Int) => ref16_status n s.1 s.2.1 s.2.2.1 s.2.2.2.1 s.2.2.2.2.1 s.2.2.2.2.2⟩
theorem ref16_status_ok : ref16_status_t.ok Try.prog 88 := FnT.ok_of (cfg := ⟨[], consD2, [], mapsD2⟩) (tab := ref16_Valid_T) (mt := mt0) pfit ref16_Valid_T_ok mt0_ok (fun s fn hf => by rw [Try.func88] at hf; cases hf; kernel_rfl) (fun n s => by kernel_rfl)
def ref16_status_T : Tab := (88, ref16_status_t) :: ref16_Valid_T
theorem ref16_status_T_ok : ref16_status_T.ok Try.prog := Tab.ok_cons ref16_status_ok ref16_Valid_T_ok
/-! dialtone/dialtoneref16.after -/
abbrev ref16_after_a := Int
def ref16_after_1 (n : Nat) (v0 : Int) : Option ref16_after_a :=
  (bif (decide (v0 = 3)) then some 4
  else (bif (decide (v0 = 4)) then some 5
  else some 3))
def ref16_after (n : Nat) (v0 : Int) : Option ref16_after_a := ref16_after_1 n v0
def ref16_after_t : FnT := ⟨[(false, [.int])], .i, fun n (s : Int) => ref16_after n s⟩
theorem ref16_after_ok : ref16_after_t.ok Try.prog 89 := FnT.ok_of (cfg := ⟨[], consD2, [], mapsD2⟩) (tab := ref16_status_T) (mt := mt0) pfit ref16_status_T_ok mt0_ok (fun s fn hf => by rw [Try.func89] at hf; cases hf; kernel_rfl) (fun n s => by kernel_rfl)
def ref16_after_T : Tab := (89, ref16_after_t) :: ref16_status_T
theorem ref16_after_T_ok : ref16_after_T.ok Try.prog := Tab.ok_cons ref16_after_ok ref16_status_T_ok
/-! dialtone/dialtoneref16.becomes -/
abbrev ref16_becomes_a := Int
def ref16_becomes_1 (n : Nat) (v5 : Bool) (v6 v7 v9 : Int) : Option ref16_becomes_a :=
  (bif (decide (v7 = 1)) then (bif (decide (v6 = 1)) then some 3
  else some (-1))
  else (bif (decide (v7 = 2)) then (bif (decide (v6 = 1)) then (bif (decide (v9 = 1)) then (bif (!v5) then some 6
  else some (-1))
  else some 2)
  else some (-1))
  else (bif (decide (v7 = 3)) then (bif (decide (v6 = 2)) then some 3
  else some (-1))
  else (bif (decide (v7 = 4)) then (bif (decide (v6 = 2)) then some 6
  else some (-1))
  else (bif (decide (v7 = 5)) then (bif (decide (v6 = 1)) then some 7
  else (bif (decide (v6 = 2)) then some 7
  else (bif (decide (v6 = 3)) then some 7
  else some (-1))))
  else (bif (decide (v7 = 6)) then (bif (decide (v6 = 4)) then (bif (!(decide (v9 = 1))) then some 8
  else (bif (!v5) then some 8
  else some (-1)))
  else some (-1))
  else some (-1)))))))
def ref16_becomes (n : Nat) (v0 v1 v2 v3 v4 : Int) (v5 : Bool) (v6 v7 v8 v9 : Int) : Option ref16_becomes_a := ref16_becomes_1 n v5 v6 v7 v9
def ref16_becomes_t : FnT := ⟨[(true, [.int, .int, .int, .int, .int, .bool]), (false, [.int]), (true, [.int, .int, .int])], .i, fun n (s : Int × Int × Int × Int × Int × Bool × Int × Int × Int × Int) => ref16_becomes n s.1 s.2.1 s.2.2.1 s.2.2.2.1 s.2.2.2.2.1 s.2.2.2.2.2.1 s.2.2.2.2.2.2.1 s.2.2.2.2.2.2.2.1 s.2.2.2.2.2.2.2.2.1 s.2.2.2.2.2.2.2.2.2⟩
theorem ref16_becomes_ok : ref16_becomes_t.ok Try.prog 90 := FnT.ok_of (cfg := ⟨[], consD2, [], mapsD2⟩) (tab := ref16_after_T) (mt := mt0) pfit ref16_after_T_ok mt0_ok (fun s fn hf => by rw [Try.func90] at hf; cases hf; kernel_rfl) (fun n s => by kernel_rfl)
def ref16_becomes_T : Tab := (90, ref16_becomes_t) :: ref16_after_T
theorem ref16_becomes_T_ok : ref16_becomes_T.ok Try.prog := Tab.ok_cons ref16_becomes_ok ref16_after_T_ok
/-! dialtone/dialtoneref16.run -/
abbrev ref16_run_a := Lv × Lv
abbrev ref16_run_s0 := Lv × Lv × Int
abbrev ref16_run_s1 := Lv × Int × Int × Int
def ref16_run_4 (n : Nat) (go0 : ref16_run_s0 → Option ref16_run_a) (go1 : ref16_run_s1 → Option ref16_run_a) (v0 v1 v2 v3 v4 v5 v6 v7 v8 : Int) (v9 : Bool) (v10 : Lv) (v11 : Int) (v16 : Lv) (v17 : Int) (v18 : Lv) (v19 v21 : Int) : Option ref16_run_a :=
  (bif (decide (0 ≤ v21)) then (bif (decide (v21 ≤ (imin (cI v10 v17 1) v11))) then (ref16_after n v19).bind fun y22 =>
  (ref16_status n v0 v1 v2 v3 y22 v21).bind fun y23 =>
  bif (decide ((((v18.length : Int) + 1) * 24) ≤ 140737488355328)) then go1 ((v18 ++ [[(AV.int y23.1), (AV.int y23.2.1), (AV.int y23.2.2)]]), y23.1, y23.2.1, y23.2.2) else none
  else (bif (decide (v17 = (v10.length : Int))) then some (v18, v16)
  else (bif (decide (v11 < (cI v10 v17 1))) then some (v18, v16)
  else (ref16_becomes n v4 v5 v6 v7 v8 v9 v19 (cI v10 v17 0) (cI v10 v17 1) (cI v10 v17 2)).bind fun y22 =>
  (bif (decide (y22 < 0)) then bif (decide ((((v16.length : Int) + 1) * 8) ≤ 140737488355328)) then bif ((decide ((-9223372036854775808) ≤ (v17 + 1))) && (decide ((v17 + 1) ≤ 9223372036854775807))) then go0 (v18, (v16 ++ [[(AV.int v17)]]), (v17 + 1)) else none else none
  else (ref16_status n v0 v1 v2 v3 y22 (cI v10 v17 1)).bind fun y23 =>
  bif (decide ((((v18.length : Int) + 1) * 24) ≤ 140737488355328)) then bif ((decide ((-9223372036854775808) ≤ (v17 + 1))) && (decide ((v17 + 1) ≤ 9223372036854775807))) then go0 ((v18 ++ [[(AV.int y23.1), (AV.int y23.2.1), (AV.int y23.2.2)]]), v16, (v17 + 1)) else none else none))))
  else (bif (decide (v17 = (v10.length : Int))) then some (v18, v16)
  else (bif (decide (v11 < (cI v10 v17 1))) then some (v18, v16)
  else (ref16_becomes n v4 v5 v6 v7 v8 v9 v19 (cI v10 v17 0) (cI v10 v17 1) (cI v10 v17 2)).bind fun y22 =>
  (bif (decide (y22 < 0)) then bif (decide ((((v16.length : Int) + 1) * 8) ≤ 140737488355328)) then bif ((decide ((-9223372036854775808) ≤ (v17 + 1))) && (decide ((v17 + 1) ≤ 9223372036854775807))) then go0 (v18, (v16 ++ [[(AV.int v17)]]), (v17 + 1)) else none else none
  else (ref16_status n v0 v1 v2 v3 y22 (cI v10 v17 1)).bind fun y23 =>
  bif (decide ((((v18.length : Int) + 1) * 24) ≤ 140737488355328)) then bif ((decide ((-9223372036854775808) ≤ (v17 + 1))) && (decide ((v17 + 1) ≤ 9223372036854775807))) then go0 ((v18 ++ [[(AV.int y23.1), (AV.int y23.2.1), (AV.int y23.2.2)]]), v16, (v17 + 1)) else none else none))))
def ref16_run_5 (n : Nat) (go0 : ref16_run_s0 → Option ref16_run_a) (go1 : ref16_run_s1 → Option ref16_run_a) (v0 v1 v2 v3 v4 v5 v6 v7 v8 : Int) (v9 : Bool) (v10 : Lv) (v11 : Int) (v16 : Lv) (v17 : Int) (v18 : Lv) (v19 v21 : Int) : Option ref16_run_a :=
  (bif (decide (0 ≤ v21)) then (bif (decide (v21 ≤ v11)) then (ref16_after n v19).bind fun y22 =>
  (ref16_status n v0 v1 v2 v3 y22 v21).bind fun y23 =>
  bif (decide ((((v18.length : Int) + 1) * 24) ≤ 140737488355328)) then go1 ((v18 ++ [[(AV.int y23.1), (AV.int y23.2.1), (AV.int y23.2.2)]]), y23.1, y23.2.1, y23.2.2) else none
  else (bif (decide (v17 = (v10.length : Int))) then some (v18, v16)
  else bif (decide (0 ≤ v17)) then bif (decide (v17 < (v10.length : Int))) then (bif (decide (v11 < (cI v10 v17 1))) then some (v18, v16)
  else (ref16_becomes n v4 v5 v6 v7 v8 v9 v19 (cI v10 v17 0) (cI v10 v17 1) (cI v10 v17 2)).bind fun y22 =>
  (bif (decide (y22 < 0)) then bif (decide ((((v16.length : Int) + 1) * 8) ≤ 140737488355328)) then bif ((decide ((-9223372036854775808) ≤ (v17 + 1))) && (decide ((v17 + 1) ≤ 9223372036854775807))) then go0 (v18, (v16 ++ [[(AV.int v17)]]), (v17 + 1)) else none else none
  else (ref16_status n v0 v1 v2 v3 y22 (cI v10 v17 1)).bind fun y23 =>
  bif (decide ((((v18.length : Int) + 1) * 24) ≤ 140737488355328)) then bif ((decide ((-9223372036854775808) ≤ (v17 + 1))) && (decide ((v17 + 1) ≤ 9223372036854775807))) then go0 ((v18 ++ [[(AV.int y23.1), (AV.int y23.2.1), (AV.int y23.2.2)]]), v16, (v17 + 1)) else none else none)) else none else none))
  else (bif (decide (v17 = (v10.length : Int))) then some (v18, v16)
  else bif (decide (0 ≤ v17)) then bif (decide (v17 < (v10.length : Int))) then (bif (decide (v11 < (cI v10 v17 1))) then some (v18, v16)
  else (ref16_becomes n v4 v5 v6 v7 v8 v9 v19 (cI v10 v17 0) (cI v10 v17 1) (cI v10 v17 2)).bind fun y22 =>
  (bif (decide (y22 < 0)) then bif (decide ((((v16.length : Int) + 1) * 8) ≤ 140737488355328)) then bif ((decide ((-9223372036854775808) ≤ (v17 + 1))) && (decide ((v17 + 1) ≤ 9223372036854775807))) then go0 (v18, (v16 ++ [[(AV.int v17)]]), (v17 + 1)) else none else none
  else (ref16_status n v0 v1 v2 v3 y22 (cI v10 v17 1)).bind fun y23 =>
  bif (decide ((((v18.length : Int) + 1) * 24) ≤ 140737488355328)) then bif ((decide ((-9223372036854775808) ≤ (v17 + 1))) && (decide ((v17 + 1) ≤ 9223372036854775807))) then go0 ((v18 ++ [[(AV.int y23.1), (AV.int y23.2.1), (AV.int y23.2.2)]]), v16, (v17 + 1)) else none else none)) else none else none))
def ref16_run_3 (n : Nat) (go0 : ref16_run_s0 → Option ref16_run_a) (v0 v1 v2 v3 v4 v5 v6 v7 v8 : Int) (v9 : Bool) (v10 : Lv) (v11 : Int) (v15 v16 : Lv) (v17 : Int) : Option ref16_run_a :=
  (bif (decide (v17 < (v10.length : Int))) then bif (decide (0 ≤ v17)) then bif ((decide ((-9223372036854775808) ≤ ((v15.length : Int) - 1))) && (decide (((v15.length : Int) - 1) ≤ 9223372036854775807))) then bif (decide (0 ≤ ((v15.length : Int) - 1))) then bif (decide (((v15.length : Int) - 1) < (v15.length : Int))) then (iterF (fun go1 s => ref16_run_4 n go0 go1 v0 v1 v2 v3 v4 v5 v6 v7 v8 v9 v10 v11 v16 v17 s.1 s.2.1 s.2.2.2) n ((v15, (cI v15 ((v15.length : Int) - 1) 0), (cI v15 ((v15.length : Int) - 1) 1), (cI v15 ((v15.length : Int) - 1) 2)) : ref16_run_s1)) else none else none else none else none
  else bif ((decide ((-9223372036854775808) ≤ ((v15.length : Int) - 1))) && (decide (((v15.length : Int) - 1) ≤ 9223372036854775807))) then bif (decide (0 ≤ ((v15.length : Int) - 1))) then bif (decide (((v15.length : Int) - 1) < (v15.length : Int))) then (iterF (fun go1 s => ref16_run_5 n go0 go1 v0 v1 v2 v3 v4 v5 v6 v7 v8 v9 v10 v11 v16 v17 s.1 s.2.1 s.2.2.2) n ((v15, (cI v15 ((v15.length : Int) - 1) 0), (cI v15 ((v15.length : Int) - 1) 1), (cI v15 ((v15.length : Int) - 1) 2)) : ref16_run_s1)) else none else none else none)
def ref16_run_2 (n : Nat) (go0 : ref16_run_s0 → Option ref16_run_a) (v0 v1 v2 v3 v4 v5 v6 v7 v8 : Int) (v9 : Bool) (v10 : Lv) (v11 : Int) (v15 v16 : Lv) (v17 : Int) : Option ref16_run_a :=
  (bif (decide (v17 ≤ (v10.length : Int))) then ref16_run_3 n go0 v0 v1 v2 v3 v4 v5 v6 v7 v8 v9 v10 v11 v15 v16 v17
  else some (v15, v16))
def ref16_run_1 (n : Nat) (v0 v1 v2 v3 v4 v5 v6 v7 v8 : Int) (v9 : Bool) (v10 : Lv) (v11 : Int) : Option ref16_run_a :=
  (ref16_status n v0 v1 v2 v3 1 v8).bind fun y12 =>
  (iterF (fun go0 s => ref16_run_2 n go0 v0 v1 v2 v3 v4 v5 v6 v7 v8 v9 v10 v11 s.1 s.2.1 s.2.2) n (((([] : Lv) ++ [[(AV.int y12.1), (AV.int y12.2.1), (AV.int y12.2.2)]]), ([] : Lv), 0) : ref16_run_s0))
def ref16_run (n : Nat) (v0 v1 v2 v3 v4 v5 v6 v7 v8 : Int) (v9 : Bool) (v10 : Lv) (v11 : Int) : Option ref16_run_a := ref16_run_1 n v0 v1 v2 v3 v4 v5 v6 v7 v8 v9 v10 v11
def ref16_run_t : FnT := ⟨[(true, [.int, .int, .int, .int]), (true, [.int, .int, .int, .int, .int, .bool]), (false, [(.sl (.cons .int (.cons .int (.cons .int .nil))))]), (false, [.int])], (.tup (.cons (.row 69 (.cons .int (.cons .int (.cons .int .nil)))) (.cons (.row 3 (.cons .int .nil)) .nil))), fun n (s : Int × Int × Int × Int × Int × Int × Int × Int × Int × Bool × Lv × Int) => ref16_run n s.1 s.2.1 s.2.2.1 s.2.2.2.1 s.2.2.2.2.1 s.2.2.2.2.2.1 s.2.2.2.2.2.2.1 s.2.2.2.2.2.2.2.1 s.2.2.2.2.2.2.2.2.1 s.2.2.2.2.2.2.2.2.2.1 s.2.2.2.2.2.2.2.2.2.2.1 s.2.2.2.2.2.2.2.2.2.2.2⟩
theorem ref16_run_ok : ref16_run_t.ok Try.prog 58 := FnT.ok_of (cfg := ⟨[((58, 4, 3), .inv [(.tmprow 10 69 (.cons .int (.cons .int (.cons .int .nil)))), (.tmprow 11 3 (.cons .int .nil)), (.tmp 12 .int)]), ((58, 10, 8), .inv [(.tmprow 10 69 (.cons .int (.cons .int (.cons .int .nil)))), (.cell 6 0 .int), (.cell 6 1 .int), (.cell 6 2 .int)])], consD2, [], mapsD2⟩) (tab := ref16_becomes_T) (mt := mt0) pfit ref16_becomes_T_ok mt0_ok (fun s fn hf => by rw [Try.func58] at hf; cases hf; kernel_rfl) (fun n s => by kernel_rfl)
def ref16_run_T : Tab := (58, ref16_run_t) :: ref16_becomes_T
theorem ref16_run_T_ok : ref16_run_T.ok Try.prog := Tab.ok_cons ref16_run_ok ref16_becomes_T_ok
/-! dialtone/dialtoneref16.Outcome -/
abbrev ref16_Outcome_a := Int × Int × Int × Int
def ref16_Outcome_1 (n : Nat) (v0 v1 v2 v3 v4 v5 v6 v7 v8 : Int) (v9 : Bool) (v10 : Lv) (v11 : Int) : Option ref16_Outcome_a :=
  (ref16_Valid n v0 v1 v2 v3 v4 v5 v6 v7 v8 v9 v10).bind fun y12 =>
  (bif (!y12) then some (0, 0, 0, 160)
  else (bif (decide (0 ≤ v11)) then (bif (!(decide (v11 ≤ 20000000))) then some (0, 0, 0, 160)
  else (bif (decide (v11 < v8)) then some (0, 0, v8, 0)
  else (ref16_run n v0 v1 v2 v3 v4 v5 v6 v7 v8 v9 v10 v11).bind fun y13 =>
  bif ((decide ((-9223372036854775808) ≤ ((y13.1.length : Int) - 1))) && (decide (((y13.1.length : Int) - 1) ≤ 9223372036854775807))) then bif (decide (0 ≤ ((y13.1.length : Int) - 1))) then bif (decide (((y13.1.length : Int) - 1) < (y13.1.length : Int))) then some ((cI y13.1 ((y13.1.length : Int) - 1) 0), (cI y13.1 ((y13.1.length : Int) - 1) 1), (cI y13.1 ((y13.1.length : Int) - 1) 2), 0) else none else none else none))
  else some (0, 0, 0, 160)))
def ref16_Outcome (n : Nat) (v0 v1 v2 v3 v4 v5 v6 v7 v8 : Int) (v9 : Bool) (v10 : Lv) (v11 : Int) : Option ref16_Outcome_a := ref16_Outcome_1 n v0 v1 v2 v3 v4 v5 v6 v7 v8 v9 v10 v11
def ref16_Outcome_t : FnT := ⟨[(true, [.int, .int, .int, .int]), (true, [.int, .int, .int, .int, .int, .bool]), (false, [(.sl (.cons .int (.cons .int (.cons .int .nil))))]), (false, [.int])], (.tup (.cons (.agg (.cons .i (.cons .i (.cons .i .nil)))) (.cons .i .nil))), fun n (s : Int × Int × Int × Int × Int × Int × Int × Int × Int × Bool × Lv × Int) => ref16_Outcome n s.1 s.2.1 s.2.2.1 s.2.2.2.1 s.2.2.2.2.1 s.2.2.2.2.2.1 s.2.2.2.2.2.2.1 s.2.2.2.2.2.2.2.1 s.2.2.2.2.2.2.2.2.1 s.2.2.2.2.2.2.2.2.2.1 s.2.2.2.2.2.2.2.2.2.2.1 s.2.2.2.2.2.2.2.2.2.2.2⟩
theorem ref16_Outcome_ok : ref16_Outcome_t.ok Try.prog 54 := FnT.ok_of (cfg := ⟨[], consD2, [], mapsD2⟩) (tab := ref16_run_T) (mt := mt0) pfit ref16_run_T_ok mt0_ok (fun s fn hf => by rw [Try.func54] at hf; cases hf; kernel_rfl) (fun n s => by kernel_rfl)
def ref16_Outcome_T : Tab := (54, ref16_Outcome_t) :: ref16_run_T
theorem ref16_Outcome_T_ok : ref16_Outcome_T.ok Try.prog := Tab.ok_cons ref16_Outcome_ok ref16_run_T_ok
/-! dialtone/dialtoneref16.Timeline -/
abbrev ref16_Timeline_a := Lv × Int
def ref16_Timeline_1 (n : Nat) (v0 v1 v2 v3 v4 v5 v6 v7 v8 : Int) (v9 : Bool) (v10 : Lv) : Option ref16_Timeline_a :=
  (ref16_Valid n v0 v1 v2 v3 v4 v5 v6 v7 v8 v9 v10).bind fun y11 =>
  (bif (!y11) then some (([] : Lv), 160)
  else (ref16_run n v0 v1 v2 v3 v4 v5 v6 v7 v8 v9 v10 40000000).bind fun y12 =>
  some (y12.1, 0))
def ref16_Timeline (n : Nat) (v0 v1 v2 v3 v4 v5 v6 v7 v8 : Int) (v9 : Bool) (v10 : Lv) : Option ref16_Timeline_a := ref16_Timeline_1 n v0 v1 v2 v3 v4 v5 v6 v7 v8 v9 v10
def ref16_Timeline_t : FnT := ⟨[(true, [.int, .int, .int, .int]), (true, [.int, .int, .int, .int, .int, .bool]), (false, [(.sl (.cons .int (.cons .int (.cons .int .nil))))])], (.tup (.cons (.row 69 (.cons .int (.cons .int (.cons .int .nil)))) (.cons .i .nil))), fun n (s : Int × Int × Int × Int × Int × Int × Int × Int × Int × Bool × Lv) => ref16_Timeline n s.1 s.2.1 s.2.2.1 s.2.2.2.1 s.2.2.2.2.1 s.2.2.2.2.2.1 s.2.2.2.2.2.2.1 s.2.2.2.2.2.2.2.1 s.2.2.2.2.2.2.2.2.1 s.2.2.2.2.2.2.2.2.2.1 s.2.2.2.2.2.2.2.2.2.2⟩
theorem ref16_Timeline_ok : ref16_Timeline_t.ok Try.prog 38 := FnT.ok_of (cfg := ⟨[], consD2, [], mapsD2⟩) (tab := ref16_Outcome_T) (mt := mt0) pfit ref16_Outcome_T_ok mt0_ok (fun s fn hf => by rw [Try.func38] at hf; cases hf; kernel_rfl) (fun n s => by kernel_rfl)
def ref16_Timeline_T : Tab := (38, ref16_Timeline_t) :: ref16_Outcome_T
theorem ref16_Timeline_T_ok : ref16_Timeline_T.ok Try.prog := Tab.ok_cons ref16_Timeline_ok ref16_Outcome_T_ok
/-! dialtone/dialtoneref16.Made -/
abbrev ref16_Made_a := Int × Int × Int × Int × Int × Int × Int × Int × Int × Bool × Lv
abbrev ref16_Made_s0 := Lv × Int × Int
def ref16_Made_4 (n : Nat) (go0 : ref16_Made_s0 → Option ref16_Made_a) (v10 v21 : Lv) (v22 v23 v24 v25 v28 : Int) : Option ref16_Made_a :=
  (bif (decide (0 < v28)) then bif ((decide ((-9223372036854775808) ≤ (Int.tdiv (cI v10 v23 1) 4))) && (decide ((Int.tdiv (cI v10 v23 1) 4) ≤ 9223372036854775807))) then (ref16_pick n (Int.tdiv (cI v10 v23 1) 4) 3).bind fun y30 =>
  (bif (decide (0 < y30)) then bif ((decide ((-9223372036854775808) ≤ (v28 - 1))) && (decide ((v28 - 1) ≤ 9223372036854775807))) then (ref16_pick n (cI v10 v23 1) 3).bind fun y31 =>
  bif ((decide ((-9223372036854775808) ≤ ((v28 - 1) + y31))) && (decide (((v28 - 1) + y31) ≤ 9223372036854775807))) then (bif (decide ((1 + v24) = 2)) then (ref16_pick n (cI v10 v23 2) 4).bind fun y32 =>
  bif ((decide ((-9223372036854775808) ≤ (1 + y32))) && (decide ((1 + y32) ≤ 9223372036854775807))) then bif (decide ((((v21.length : Int) + 1) * 24) ≤ 140737488355328)) then bif ((decide ((-9223372036854775808) ≤ (v23 + 1))) && (decide ((v23 + 1) ≤ 9223372036854775807))) then go0 ((v21 ++ [[(AV.int (1 + v24)), (AV.int (imax v22 ((v28 - 1) + y31))), (AV.int (1 + y32))]]), (imax v22 ((v28 - 1) + y31)), (v23 + 1)) else none else none else none
  else (bif (decide ((1 + v24) = 6)) then (ref16_pick n (cI v10 v23 2) 4).bind fun y32 =>
  bif ((decide ((-9223372036854775808) ≤ (1 + y32))) && (decide ((1 + y32) ≤ 9223372036854775807))) then bif (decide ((((v21.length : Int) + 1) * 24) ≤ 140737488355328)) then bif ((decide ((-9223372036854775808) ≤ (v23 + 1))) && (decide ((v23 + 1) ≤ 9223372036854775807))) then go0 ((v21 ++ [[(AV.int (1 + v24)), (AV.int (imax v22 ((v28 - 1) + y31))), (AV.int (1 + y32))]]), (imax v22 ((v28 - 1) + y31)), (v23 + 1)) else none else none else none
  else bif (decide ((((v21.length : Int) + 1) * 24) ≤ 140737488355328)) then bif ((decide ((-9223372036854775808) ≤ (v23 + 1))) && (decide ((v23 + 1) ≤ 9223372036854775807))) then go0 ((v21 ++ [[(AV.int (1 + v24)), (AV.int (imax v22 ((v28 - 1) + y31))), (AV.int 0)]]), (imax v22 ((v28 - 1) + y31)), (v23 + 1)) else none else none)) else none else none
  else (bif (decide ((1 + v24) = 2)) then (ref16_pick n (cI v10 v23 2) 4).bind fun y31 =>
  bif ((decide ((-9223372036854775808) ≤ (1 + y31))) && (decide ((1 + y31) ≤ 9223372036854775807))) then bif (decide ((((v21.length : Int) + 1) * 24) ≤ 140737488355328)) then bif ((decide ((-9223372036854775808) ≤ (v23 + 1))) && (decide ((v23 + 1) ≤ 9223372036854775807))) then go0 ((v21 ++ [[(AV.int (1 + v24)), (AV.int (v22 + v25)), (AV.int (1 + y31))]]), (v22 + v25), (v23 + 1)) else none else none else none
  else (bif (decide ((1 + v24) = 6)) then (ref16_pick n (cI v10 v23 2) 4).bind fun y31 =>
  bif ((decide ((-9223372036854775808) ≤ (1 + y31))) && (decide ((1 + y31) ≤ 9223372036854775807))) then bif (decide ((((v21.length : Int) + 1) * 24) ≤ 140737488355328)) then bif ((decide ((-9223372036854775808) ≤ (v23 + 1))) && (decide ((v23 + 1) ≤ 9223372036854775807))) then go0 ((v21 ++ [[(AV.int (1 + v24)), (AV.int (v22 + v25)), (AV.int (1 + y31))]]), (v22 + v25), (v23 + 1)) else none else none else none
  else bif (decide ((((v21.length : Int) + 1) * 24) ≤ 140737488355328)) then bif ((decide ((-9223372036854775808) ≤ (v23 + 1))) && (decide ((v23 + 1) ≤ 9223372036854775807))) then go0 ((v21 ++ [[(AV.int (1 + v24)), (AV.int (v22 + v25)), (AV.int 0)]]), (v22 + v25), (v23 + 1)) else none else none))) else none
  else (bif (decide ((1 + v24) = 2)) then (ref16_pick n (cI v10 v23 2) 4).bind fun y30 =>
  bif ((decide ((-9223372036854775808) ≤ (1 + y30))) && (decide ((1 + y30) ≤ 9223372036854775807))) then bif (decide ((((v21.length : Int) + 1) * 24) ≤ 140737488355328)) then bif ((decide ((-9223372036854775808) ≤ (v23 + 1))) && (decide ((v23 + 1) ≤ 9223372036854775807))) then go0 ((v21 ++ [[(AV.int (1 + v24)), (AV.int (v22 + v25)), (AV.int (1 + y30))]]), (v22 + v25), (v23 + 1)) else none else none else none
  else (bif (decide ((1 + v24) = 6)) then (ref16_pick n (cI v10 v23 2) 4).bind fun y30 =>
  bif ((decide ((-9223372036854775808) ≤ (1 + y30))) && (decide ((1 + y30) ≤ 9223372036854775807))) then bif (decide ((((v21.length : Int) + 1) * 24) ≤ 140737488355328)) then bif ((decide ((-9223372036854775808) ≤ (v23 + 1))) && (decide ((v23 + 1) ≤ 9223372036854775807))) then go0 ((v21 ++ [[(AV.int (1 + v24)), (AV.int (v22 + v25)), (AV.int (1 + y30))]]), (v22 + v25), (v23 + 1)) else none else none else none
  else bif (decide ((((v21.length : Int) + 1) * 24) ≤ 140737488355328)) then bif ((decide ((-9223372036854775808) ≤ (v23 + 1))) && (decide ((v23 + 1) ≤ 9223372036854775807))) then go0 ((v21 ++ [[(AV.int (1 + v24)), (AV.int (v22 + v25)), (AV.int 0)]]), (v22 + v25), (v23 + 1)) else none else none)))
def ref16_Made_3 (n : Nat) (go0 : ref16_Made_s0 → Option ref16_Made_a) (v10 : Lv) (v11 v12 v13 v14 v15 v16 v17 v18 v19 v20 : Int) (v21 : Lv) (v22 v23 : Int) : Option ref16_Made_a :=
  (bif (decide (v23 < 10)) then bif (decide (0 ≤ v23)) then (ref16_pick n (cI v10 v23 0) 6).bind fun y24 =>
  bif ((decide ((-9223372036854775808) ≤ (1 + y24))) && (decide ((1 + y24) ≤ 9223372036854775807))) then (ref16_pick n (cI v10 v23 1) 4).bind fun y25 =>
  bif ((decide ((-9223372036854775808) ≤ (v22 + y25))) && (decide ((v22 + y25) ≤ 9223372036854775807))) then (ref16_Outcome n v11 v12 v13 v14 v15 v16 (Int.tmod ((v16 + 1) + v20) 8) v17 v18 (decide (v19 = 0)) v21 v22).bind fun y26 =>
  ref16_Made_4 n go0 v10 v21 v22 v23 y24 y25 y26.2.2.1 else none else none else none
  else some (v11, v12, v13, v14, v15, v16, (Int.tmod ((v16 + 1) + v20) 8), v17, v18, (decide (v19 = 0)), v21))
def ref16_Made_2 (n : Nat) (go0 : ref16_Made_s0 → Option ref16_Made_a) (v10 : Lv) (v11 v12 v13 v14 v15 v16 v17 v18 v19 v20 : Int) (v21 : Lv) (v22 v23 : Int) : Option ref16_Made_a :=
  (bif (decide (v23 < (v10.length : Int))) then ref16_Made_3 n go0 v10 v11 v12 v13 v14 v15 v16 v17 v18 v19 v20 v21 v22 v23
  else some (v11, v12, v13, v14, v15, v16, (Int.tmod ((v16 + 1) + v20) 8), v17, v18, (decide (v19 = 0)), v21))
def ref16_Made_1 (n : Nat) (v0 v1 v2 v3 v4 v5 v6 v7 v8 v9 : Int) (v10 : Lv) : Option ref16_Made_a :=
  (ref16_MadeRules n v0 v1 v2 v3).bind fun y11 =>
  (ref16_pick n v4 100000000).bind fun y15 =>
  (ref16_pick n v5 8).bind fun y16 =>
  (ref16_pick n v7 64).bind fun y17 =>
  (ref16_pick n v8 1000).bind fun y18 =>
  (ref16_pick n v9 2).bind fun y19 =>
  bif ((decide ((-9223372036854775808) ≤ (y16 + 1))) && (decide ((y16 + 1) ≤ 9223372036854775807))) then (ref16_pick n v6 7).bind fun y20 =>
  bif ((decide ((-9223372036854775808) ≤ ((y16 + 1) + y20))) && (decide (((y16 + 1) + y20) ≤ 9223372036854775807))) then (iterF (fun go0 s => ref16_Made_2 n go0 v10 y11.1 y11.2.1 y11.2.2.1 y11.2.2.2 y15 y16 y17 y18 y19 y20 s.1 s.2.1 s.2.2) n ((([] : Lv), y18, 0) : ref16_Made_s0)) else none else none
def ref16_Made (n : Nat) (v0 v1 v2 v3 v4 v5 v6 v7 v8 v9 : Int) (v10 : Lv) : Option ref16_Made_a := ref16_Made_1 n v0 v1 v2 v3 v4 v5 v6 v7 v8 v9 v10
def ref16_Made_t : FnT := ⟨[(true, [.int, .int, .int, .int, .int, .int, .int, .int, .int, .int, (.sl (.cons .int (.cons .int (.cons .int .nil))))])], (.tup (.cons (.agg (.cons .i (.cons .i (.cons .i (.cons .i .nil))))) (.cons (.agg (.cons .i (.cons .i (.cons .i (.cons .i (.cons .i (.cons .b .nil))))))) (.cons (.row 82 (.cons .int (.cons .int (.cons .int .nil)))) .nil)))), fun n (s : Int × Int × Int × Int × Int × Int × Int × Int × Int × Int × Lv) => ref16_Made n s.1 s.2.1 s.2.2.1 s.2.2.2.1 s.2.2.2.2.1 s.2.2.2.2.2.1 s.2.2.2.2.2.2.1 s.2.2.2.2.2.2.2.1 s.2.2.2.2.2.2.2.2.1 s.2.2.2.2.2.2.2.2.2.1 s.2.2.2.2.2.2.2.2.2.2⟩
theorem ref16_Made_ok : ref16_Made_t.ok Try.prog 36 := FnT.ok_of (cfg := ⟨[((36, 8, 10), .inv [(.tmprow 8 82 (.cons .int (.cons .int (.cons .int .nil)))), (.tmp 9 .int), (.tmp 10 .int)])], consD2, [], mapsD2⟩) (tab := ref16_Timeline_T) (mt := mt0) pfit ref16_Timeline_T_ok mt0_ok (fun s fn hf => by rw [Try.func36] at hf; cases hf; kernel_rfl) (fun n s => by kernel_rfl)
def ref16_Made_T : Tab := (36, ref16_Made_t) :: ref16_Timeline_T
theorem ref16_Made_T_ok : ref16_Made_T.ok Try.prog := Tab.ok_cons ref16_Made_ok ref16_Timeline_T_ok
/-! dialtone/dialtoneref16.Ints -/
abbrev ref16_Ints_a := Bool
abbrev ref16_Ints_s0 := Int
def ref16_Ints_2 (n : Nat) (go0 : ref16_Ints_s0 → Option ref16_Ints_a) (v0 v1 : Lv) (v2 : Int) : Option ref16_Ints_a :=
  (bif (decide (v2 < (v0.length : Int))) then bif (decide (0 ≤ v2)) then bif (decide (v2 < (v1.length : Int))) then (bif (!(decide ((cI v0 v2 0) = (cI v1 v2 0)))) then some false
  else bif ((decide ((-9223372036854775808) ≤ (v2 + 1))) && (decide ((v2 + 1) ≤ 9223372036854775807))) then go0 (v2 + 1) else none) else none else none
  else some true)
def ref16_Ints_1 (n : Nat) (v0 v1 : Lv) : Option ref16_Ints_a :=
  (bif (!(decide ((v0.length : Int) = (v1.length : Int)))) then some false
  else (iterF (fun go0 s => ref16_Ints_2 n go0 v0 v1 s) n (0 : ref16_Ints_s0)))
def ref16_Ints (n : Nat) (v0 v1 : Lv) : Option ref16_Ints_a := ref16_Ints_1 n v0 v1
def ref16_Ints_t : FnT := ⟨[(false, [(.sl (.cons .int .nil))]), (false, [(.sl (.cons .int .nil))])], .b, fun n (s : Lv × Lv) => ref16_Ints n s.1 s.2⟩
theorem ref16_Ints_ok : ref16_Ints_t.ok Try.prog 21 := FnT.ok_of (cfg := ⟨[((21, 4, 0), .inv [(.tmp 5 .int)])], consD2, [], mapsD2⟩) (tab := ref16_Made_T) (mt := mt0) pfit ref16_Made_T_ok mt0_ok (fun s fn hf => by rw [Try.func21] at hf; cases hf; kernel_rfl) (fun n s => by kernel_rfl)
def ref16_Ints_T : Tab := (21, ref16_Ints_t) :: ref16_Made_T
theorem ref16_Ints_T_ok : ref16_Ints_T.ok Try.prog := Tab.ok_cons ref16_Ints_ok ref16_Made_T_ok
/-! dialtone/claim.isClaim -/
abbrev claim_isClaim_a := Bool
def claim_isClaim_1 (n : Nat) (v0 v1 v2 v3 v4 : Int) : Option claim_isClaim_a :=
  (bif (decide (0 ≤ v0)) then (bif (decide (v0 ≤ 99999999)) then (bif (decide (0 ≤ v1)) then (bif (decide (v1 ≤ 7)) then (bif (decide (0 ≤ v2)) then (bif (decide (v2 ≤ 7)) then (bif (!(decide (v1 = v2))) then (bif (decide (0 ≤ v3)) then (bif (decide (v3 ≤ 63)) then (bif (decide (0 ≤ v4)) then some (decide (v4 ≤ 10000000))
  else some false)
  else some false)
  else some false)
  else some false)
  else some false)
  else some false)
  else some false)
  else some false)
  else some false)
  else some false)
def claim_isClaim (n : Nat) (v0 v1 v2 v3 v4 : Int) (v5 : Bool) : Option claim_isClaim_a := claim_isClaim_1 n v0 v1 v2 v3 v4
def claim_isClaim_t : FnT := ⟨[(true, [.int, .int, .int, .int, .int, .bool])], .b, fun n (s : Int × Int × Int × Int × Int × Bool) => claim_isClaim n s.1 s.2.1 s.2.2.1 s.2.2.2.1 s.2.2.2.2.1 s.2.2.2.2.2⟩
theorem claim_isClaim_ok : claim_isClaim_t.ok Try.prog 64 := FnT.ok_of (cfg := ⟨[], consD2, [], mapsD2⟩) (tab := ref16_Ints_T) (mt := mt0) pfit ref16_Ints_T_ok mt0_ok (fun s fn hf => by rw [Try.func64] at hf; cases hf; kernel_rfl) (fun n s => by kernel_rfl)
def claim_isClaim_T : Tab := (64, claim_isClaim_t) :: ref16_Ints_T
theorem claim_isClaim_T_ok : claim_isClaim_T.ok Try.prog := Tab.ok_cons claim_isClaim_ok ref16_Ints_T_ok
/-! dialtone/claim.Valid -/
abbrev claim_Valid_a := Bool
abbrev claim_Valid_s0 := Int × Int
abbrev claim_Valid_s1 := Int
def claim_Valid_3 (n : Nat) (go0 : claim_Valid_s0 → Option claim_Valid_a) (v10 : Lv) (v13 v14 : Int) : Option claim_Valid_a :=
  (bif (decide (v13 < (v10.length : Int))) then bif (decide (0 ≤ v13)) then (bif (decide ((cI v10 v13 0) = 2)) then (bif (decide (1 ≤ (cI v10 v13 0))) then (bif (!(decide ((cI v10 v13 0) ≤ 6))) then some (!(decide (0 ≤ v13)))
  else (bif (decide (v14 ≤ (cI v10 v13 1))) then (bif (!(decide ((cI v10 v13 1) ≤ 20000000))) then some (!(decide (0 ≤ v13)))
  else (bif (decide (1 ≤ (cI v10 v13 2))) then (bif (!(decide ((cI v10 v13 2) ≤ 9))) then some (!(decide (0 ≤ v13)))
  else bif ((decide ((-9223372036854775808) ≤ (v13 + 1))) && (decide ((v13 + 1) ≤ 9223372036854775807))) then go0 ((v13 + 1), (cI v10 v13 1)) else none)
  else some (!(decide (0 ≤ v13)))))
  else some (!(decide (0 ≤ v13)))))
  else some (!(decide (0 ≤ v13))))
  else (bif (decide ((cI v10 v13 0) = 6)) then (bif (decide (1 ≤ (cI v10 v13 0))) then (bif (!(decide ((cI v10 v13 0) ≤ 6))) then some (!(decide (0 ≤ v13)))
  else (bif (decide (v14 ≤ (cI v10 v13 1))) then (bif (!(decide ((cI v10 v13 1) ≤ 20000000))) then some (!(decide (0 ≤ v13)))
  else (bif (decide (1 ≤ (cI v10 v13 2))) then (bif (!(decide ((cI v10 v13 2) ≤ 9))) then some (!(decide (0 ≤ v13)))
  else bif ((decide ((-9223372036854775808) ≤ (v13 + 1))) && (decide ((v13 + 1) ≤ 9223372036854775807))) then go0 ((v13 + 1), (cI v10 v13 1)) else none)
  else some (!(decide (0 ≤ v13)))))
  else some (!(decide (0 ≤ v13)))))
  else some (!(decide (0 ≤ v13))))
  else (bif (decide (1 ≤ (cI v10 v13 0))) then (bif (!(decide ((cI v10 v13 0) ≤ 6))) then some (!(decide (0 ≤ v13)))
  else (bif (decide (v14 ≤ (cI v10 v13 1))) then (bif (!(decide ((cI v10 v13 1) ≤ 20000000))) then some (!(decide (0 ≤ v13)))
  else (bif (decide (0 ≤ (cI v10 v13 2))) then (bif (!(decide ((cI v10 v13 2) ≤ 0))) then some (!(decide (0 ≤ v13)))
  else bif ((decide ((-9223372036854775808) ≤ (v13 + 1))) && (decide ((v13 + 1) ≤ 9223372036854775807))) then go0 ((v13 + 1), (cI v10 v13 1)) else none)
  else some (!(decide (0 ≤ v13)))))
  else some (!(decide (0 ≤ v13)))))
  else some (!(decide (0 ≤ v13)))))) else none
  else some true)
def claim_Valid_2 (n : Nat) (go0 : claim_Valid_s1 → Option claim_Valid_a) (v0 v1 v2 v3 v4 v5 v6 v7 v8 : Int) (v9 : Bool) (v10 : Lv) (v11 : Int) : Option claim_Valid_a :=
  (bif (decide (v11 < 4)) then bif (decide (0 ≤ v11)) then (bif (decide (1 ≤ (cI ((((([] : Lv) ++ [[(AV.int v0)]]) ++ [[(AV.int v2)]]) ++ [[(AV.int v1)]]) ++ [[(AV.int v3)]]) v11 0))) then (bif (!(decide ((cI ((((([] : Lv) ++ [[(AV.int v0)]]) ++ [[(AV.int v2)]]) ++ [[(AV.int v1)]]) ++ [[(AV.int v3)]]) v11 0) ≤ 1000000))) then some false
  else bif ((decide ((-9223372036854775808) ≤ (v11 + 1))) && (decide ((v11 + 1) ≤ 9223372036854775807))) then go0 (v11 + 1) else none)
  else some false) else none
  else (claim_isClaim n v4 v5 v6 v7 v8 v9).bind fun y12 =>
  (bif (!y12) then some false
  else (bif (decide (20 < (v10.length : Int))) then some false
  else (iterF (fun go0 s => claim_Valid_3 n go0 v10 s.1 s.2) n ((0, v8) : claim_Valid_s0)))))
def claim_Valid_1 (n : Nat) (v0 v1 v2 v3 v4 v5 v6 v7 v8 : Int) (v9 : Bool) (v10 : Lv) : Option claim_Valid_a :=
  (iterF (fun go0 s => claim_Valid_2 n go0 v0 v1 v2 v3 v4 v5 v6 v7 v8 v9 v10 s) n (0 : claim_Valid_s1))
def claim_Valid (n : Nat) (v0 v1 v2 v3 v4 v5 v6 v7 v8 : Int) (v9 : Bool) (v10 : Lv) : Option claim_Valid_a := claim_Valid_1 n v0 v1 v2 v3 v4 v5 v6 v7 v8 v9 v10
def claim_Valid_t : FnT := ⟨[(true, [.int, .int, .int, .int]), (true, [.int, .int, .int, .int, .int, .bool]), (false, [(.sl (.cons .int (.cons .int (.cons .int .nil))))])], .b, fun n (s : Int × Int × Int × Int × Int × Int × Int × Int × Int × Bool × Lv) => claim_Valid n s.1 s.2.1 s.2.2.1 s.2.2.2.1 s.2.2.2.2.1 s.2.2.2.2.2.1 s.2.2.2.2.2.2.1 s.2.2.2.2.2.2.2.1 s.2.2.2.2.2.2.2.2.1 s.2.2.2.2.2.2.2.2.2.1 s.2.2.2.2.2.2.2.2.2.2⟩
theorem claim_Valid_ok : claim_Valid_t.ok Try.prog 43 := FnT.ok_of (cfg := ⟨[((63, 2, 4), .inv [(.tmp 15 .int)]), ((95, 2, 7), .inv [(.tmp 8 .int), (.cell 5 0 .int)])], consD2, [], mapsD2⟩) (tab := claim_isClaim_T) (mt := mt0) pfit claim_isClaim_T_ok mt0_ok (fun s fn hf => by rw [Try.func43] at hf; cases hf; kernel_rfl) (fun n s => by kernel_rfl)
def claim_Valid_T : Tab := (43, claim_Valid_t) :: claim_isClaim_T
theorem claim_Valid_T_ok : claim_Valid_T.ok Try.prog := Tab.ok_cons claim_Valid_ok claim_isClaim_T_ok
/-! dialtone/claim.Ends -/
abbrev claim_Ends_a := Int × Int
abbrev claim_Ends_s0 := Int
def claim_Ends_2 (n : Nat) (go0 : claim_Ends_s0 → Option claim_Ends_a) (v0 v1 v2 v3 v4 v5 v6 v7 v8 : Int) (v9 : Bool) (v10 : Int) : Option claim_Ends_a :=
  (bif (decide (v10 < 4)) then bif (decide (0 ≤ v10)) then (bif (decide (1 ≤ (cI ((((([] : Lv) ++ [[(AV.int v0)]]) ++ [[(AV.int v2)]]) ++ [[(AV.int v1)]]) ++ [[(AV.int v3)]]) v10 0))) then (bif (!(decide ((cI ((((([] : Lv) ++ [[(AV.int v0)]]) ++ [[(AV.int v2)]]) ++ [[(AV.int v1)]]) ++ [[(AV.int v3)]]) v10 0) ≤ 1000000))) then some (0, 160)
  else bif ((decide ((-9223372036854775808) ≤ (v10 + 1))) && (decide ((v10 + 1) ≤ 9223372036854775807))) then go0 (v10 + 1) else none)
  else some (0, 160)) else none
  else (claim_isClaim n v4 v5 v6 v7 v8 v9).bind fun y11 =>
  (bif (!y11) then some (0, 160)
  else bif ((decide ((-9223372036854775808) ≤ (v8 + v0))) && (decide ((v8 + v0) ≤ 9223372036854775807))) then bif ((decide ((-9223372036854775808) ≤ ((v8 + v0) - 1))) && (decide (((v8 + v0) - 1) ≤ 9223372036854775807))) then bif ((decide ((-9223372036854775808) ≤ (((v8 + v0) - 1) + v2))) && (decide ((((v8 + v0) - 1) + v2) ≤ 9223372036854775807))) then bif ((decide ((-9223372036854775808) ≤ ((((v8 + v0) - 1) + v2) + v1))) && (decide (((((v8 + v0) - 1) + v2) + v1) ≤ 9223372036854775807))) then bif ((decide ((-9223372036854775808) ≤ (((((v8 + v0) - 1) + v2) + v1) + v3))) && (decide ((((((v8 + v0) - 1) + v2) + v1) + v3) ≤ 9223372036854775807))) then some ((((((v8 + v0) - 1) + v2) + v1) + v3), 0) else none else none else none else none else none))
def claim_Ends_1 (n : Nat) (v0 v1 v2 v3 v4 v5 v6 v7 v8 : Int) (v9 : Bool) : Option claim_Ends_a :=
  (iterF (fun go0 s => claim_Ends_2 n go0 v0 v1 v2 v3 v4 v5 v6 v7 v8 v9 s) n (0 : claim_Ends_s0))
def claim_Ends (n : Nat) (v0 v1 v2 v3 v4 v5 v6 v7 v8 : Int) (v9 : Bool) : Option claim_Ends_a := claim_Ends_1 n v0 v1 v2 v3 v4 v5 v6 v7 v8 v9
def claim_Ends_t : FnT := ⟨[(true, [.int, .int, .int, .int]), (true, [.int, .int, .int, .int, .int, .bool])], (.tup (.cons .i (.cons .i .nil))), fun n (s : Int × Int × Int × Int × Int × Int × Int × Int × Int × Bool) => claim_Ends n s.1 s.2.1 s.2.2.1 s.2.2.2.1 s.2.2.2.2.1 s.2.2.2.2.2.1 s.2.2.2.2.2.2.1 s.2.2.2.2.2.2.2.1 s.2.2.2.2.2.2.2.2.1 s.2.2.2.2.2.2.2.2.2⟩
theorem claim_Ends_ok : claim_Ends_t.ok Try.prog 41 := FnT.ok_of (cfg := ⟨[((63, 2, 4), .inv [(.tmp 15 .int)])], consD2, [], mapsD2⟩) (tab := claim_Valid_T) (mt := mt0) pfit claim_Valid_T_ok mt0_ok (fun s fn hf => by rw [Try.func41] at hf; cases hf; kernel_rfl) (fun n s => by kernel_rfl)
def claim_Ends_T : Tab := (41, claim_Ends_t) :: claim_Valid_T
theorem claim_Ends_T_ok : claim_Ends_T.ok Try.prog := Tab.ok_cons claim_Ends_ok claim_Valid_T_ok
end
end Go.Proofs.Ytjllgiddmeiaoaa
