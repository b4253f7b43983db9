/-
  Plain functions for functions of the program, each with its contract (printed by decomp.py).
-/
import Derived.Test.YtjllgiddmeiaoaaSxP
import Derived.Test.YtjllgiddmeiaoaaSx25
import Derived.Test.YtjllgiddmeiaoaaDS
set_option linter.unusedSimpArgs false
set_option linter.unusedVariables false
set_option maxRecDepth 100000
namespace Go.Proofs.Ytjllgiddmeiaoaa
open Go Go.Sx
noncomputable section
def consE4 : List Nat := [12, 13, 14, 15, 16, 17, 18, 19, 20, 21, 22, 23, 24, 25, 26, 27, 28, 29, 30, 31, 32, 33, 34, 35, 36, 37, 38, 41, 42, 43, 47, 49, 50, 52, 53, 54, 56, 57, 58, 61, 64, 79, 80, 82, 83, 84, 86, 87, 88, 89, 90, 100, 101, 106]
def mapsE4 : List (Nat × SV × SV) := [(69, SV.of [.agg (SV.of [.vi (.int 1), .vi (.int 1)]), .agg (SV.of [.vi (.int 2), .vi (.int 1)]), .agg (SV.of [.vi (.int 3), .vi (.int 2)]), .agg (SV.of [.vi (.int 4), .vi (.int 2)]), .agg (SV.of [.vi (.int 5), .vi (.int 1)]), .agg (SV.of [.vi (.int 5), .vi (.int 2)]), .agg (SV.of [.vi (.int 5), .vi (.int 3)]), .agg (SV.of [.vi (.int 6), .vi (.int 4)])], SV.of [.vi (.int 3), .vi (.int 2), .vi (.int 3), .vi (.int 6), .vi (.int 7), .vi (.int 7), .vi (.int 7), .vi (.int 8)])]
/-! dialtone/dialtonelaw17.ChainSettles -/
abbrev law17_ChainSettles_a := Bool
abbrev law17_ChainSettles_s0 := Int
def law17_ChainSettles_2 (n : Nat) (go0 : law17_ChainSettles_s0 → Option law17_ChainSettles_a) (v18 : Int) (v29 : Lv) (v32 : Int) : Option law17_ChainSettles_a :=
  (bif (decide (v32 < (v29.length : Int))) then bif (decide (0 ≤ v32)) then (bif (decide (v18 < (cI v29 v32 0))) then some false
  else (bif (decide (0 < v32)) then bif ((decide ((-9223372036854775808) ≤ (v32 - 1))) && (decide ((v32 - 1) ≤ 9223372036854775807))) then bif (decide (0 ≤ (v32 - 1))) then bif (decide ((v32 - 1) < (v29.length : Int))) then (bif (decide ((cI v29 v32 0) < (cI v29 (v32 - 1) 0))) then some false
  else bif ((decide ((-9223372036854775808) ≤ (v32 + 1))) && (decide ((v32 + 1) ≤ 9223372036854775807))) then go0 (v32 + 1) else none) else none else none else none
  else bif ((decide ((-9223372036854775808) ≤ (v32 + 1))) && (decide ((v32 + 1) ≤ 9223372036854775807))) then go0 (v32 + 1) else none)) else none
  else some true)
def law17_ChainSettles_1 (n : Nat) (v0 v1 v2 v3 v4 v5 : Int) (v6 v7 : Lv) (v8 : Int) : Option law17_ChainSettles_a :=
  (law17_sane n ).bind fun y9 =>
  (bif (!y9) then some false
  else (ref17_Made n v0 v1 v2 v3 v4 v5 v6 v7).bind fun y10 =>
  (chain_Settled n y10.1 y10.2.1 y10.2.2.1 y10.2.2.2.1 y10.2.2.2.2.1 y10.2.2.2.2.2.1 y10.2.2.2.2.2.2.1 y10.2.2.2.2.2.2.2).bind fun y18 =>
  (bif (!(decide (y18.2 = 0))) then some false
  else (bif (decide (y18.1 < 0)) then some false
  else (bif (decide (20000000 < y18.1)) then some false
  else bif ((decide ((-9223372036854775808) ≤ (20000000 - y18.1))) && (decide ((20000000 - y18.1) ≤ 9223372036854775807))) then bif ((decide ((-9223372036854775808) ≤ ((20000000 - y18.1) + 1))) && (decide (((20000000 - y18.1) + 1) ≤ 9223372036854775807))) then (law17_pick n v8 ((20000000 - y18.1) + 1)).bind fun y20 =>
  bif ((decide ((-9223372036854775808) ≤ (y18.1 + y20))) && (decide ((y18.1 + y20) ≤ 9223372036854775807))) then (chain_Open n y10.1 y10.2.1 y10.2.2.1 y10.2.2.2.1 y10.2.2.2.2.1 y10.2.2.2.2.2.1 y10.2.2.2.2.2.2.1 y10.2.2.2.2.2.2.2 (y18.1 + y20)).bind fun y21 =>
  (chain_At n y10.1 y10.2.1 y10.2.2.1 y10.2.2.2.1 y10.2.2.2.2.1 y10.2.2.2.2.2.1 y10.2.2.2.2.2.2.1 y10.2.2.2.2.2.2.2 y18.1).bind fun y23 =>
  (chain_At n y10.1 y10.2.1 y10.2.2.1 y10.2.2.2.1 y10.2.2.2.2.1 y10.2.2.2.2.2.1 y10.2.2.2.2.2.2.1 y10.2.2.2.2.2.2.2 (y18.1 + y20)).bind fun y26 =>
  (chain_Turns n y10.1 y10.2.1 y10.2.2.1 y10.2.2.2.1 y10.2.2.2.2.1 y10.2.2.2.2.2.1 y10.2.2.2.2.2.2.1 y10.2.2.2.2.2.2.2).bind fun y29 =>
  (bif (!(decide (y21.2 = 0))) then some false
  else (bif (!(decide (y23.2.2 = 0))) then some false
  else (bif (!(decide (y26.2.2 = 0))) then some false
  else (bif (!(decide (y29.2 = 0))) then some false
  else (bif (!(decide ((y21.1.length : Int) = 0))) then some false
  else (bif (!(decide (y23.1 = y26.1))) then some false
  else (ref16_Ints n y23.2.1 y26.2.1).bind fun y31 =>
  (bif (!y31) then some false
  else (iterF (fun go0 s => law17_ChainSettles_2 n go0 y18.1 y29.1 s) n (0 : law17_ChainSettles_s0))))))))) else none else none else none))))
def law17_ChainSettles (n : Nat) (v0 v1 v2 v3 v4 v5 : Int) (v6 v7 : Lv) (v8 : Int) : Option law17_ChainSettles_a := law17_ChainSettles_1 n v0 v1 v2 v3 v4 v5 v6 v7 v8
def law17_ChainSettles_t : FnT := ⟨[(true, [.int, .int, .int, .int, .int, .int, (.sl (.cons .int (.cons .int (.cons .int .nil)))), (.sl (.cons .int (.cons .int (.cons .int (.cons .int (.cons .int (.cons .int (.cons (.sl (.cons .int (.cons .int (.cons .int .nil)))) (.cons .int .nil)))))))))]), (false, [.int])], .b, fun n (s : Int × Int × Int × Int × Int × Int × Lv × Lv × Int) => law17_ChainSettles n s.1 s.2.1 s.2.2.1 s.2.2.2.1 s.2.2.2.2.1 s.2.2.2.2.2.1 s.2.2.2.2.2.2.1 s.2.2.2.2.2.2.2.1 s.2.2.2.2.2.2.2.2⟩
theorem law17_ChainSettles_ok : law17_ChainSettles_t.ok Try.prog 4 := FnT.ok_of (cfg := ⟨[((4, 15, 9), .inv [(.tmp 19 .int)])], consE4, [], mapsE4⟩) (tab := law17_sane_T) (mt := mtE) pfit law17_sane_T_ok mtE_ok (fun s fn hf => by rw [Try.func4] at hf; cases hf; kernel_rfl) (fun n s => by kernel_rfl)
def law17_ChainSettles_T : Tab := (4, law17_ChainSettles_t) :: law17_sane_T
theorem law17_ChainSettles_T_ok : law17_ChainSettles_T.ok Try.prog := Tab.ok_cons law17_ChainSettles_ok law17_sane_T_ok
end
end Go.Proofs.Ytjllgiddmeiaoaa
