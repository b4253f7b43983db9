/-
  Plain functions for functions of the program, each with its contract (printed by decomp.py).
-/
import Derived.Test.YtjllgiddmeiaoaaSxP
import Derived.Test.YtjllgiddmeiaoaaSx25
import Derived.Test.YtjllgiddmeiaoaaDS
set_option linter.unusedSimpArgs false
set_option linter.unusedVariables false
set_option maxRecDepth 100000
namespace Go.Proofs.Ytjllgiddmeiaoaa
open Go Go.Sx
noncomputable section
def consE8 : List Nat := [12, 13, 14, 15, 16, 17, 18, 19, 20, 21, 22, 23, 24, 25, 26, 27, 28, 29, 30, 31, 32, 33, 34, 35, 36, 37, 38, 41, 42, 43, 47, 49, 50, 52, 53, 54, 56, 57, 58, 61, 64, 79, 80, 82, 83, 84, 86, 87, 88, 89, 90, 100, 101, 106]
def mapsE8 : List (Nat × SV × SV) := [(69, SV.of [.agg (SV.of [.vi (.int 1), .vi (.int 1)]), .agg (SV.of [.vi (.int 2), .vi (.int 1)]), .agg (SV.of [.vi (.int 3), .vi (.int 2)]), .agg (SV.of [.vi (.int 4), .vi (.int 2)]), .agg (SV.of [.vi (.int 5), .vi (.int 1)]), .agg (SV.of [.vi (.int 5), .vi (.int 2)]), .agg (SV.of [.vi (.int 5), .vi (.int 3)]), .agg (SV.of [.vi (.int 6), .vi (.int 4)])], SV.of [.vi (.int 3), .vi (.int 2), .vi (.int 3), .vi (.int 6), .vi (.int 7), .vi (.int 7), .vi (.int 7), .vi (.int 8)])]
/-! dialtone/dialtonelaw17.ChainHolder -/
abbrev law17_ChainHolder_a := Bool
abbrev law17_ChainHolder_s0 := Int
def law17_ChainHolder_2 (n : Nat) (go0 : law17_ChainHolder_s0 → Option law17_ChainHolder_a) (v9 v10 v11 v12 v13 v14 : Int) (v15 v16 v17 : Lv) (v19 : Int) : Option law17_ChainHolder_a :=
  (bif (decide (v19 < (v17.length : Int))) then bif (decide (0 ≤ v19)) then (bif (!(decide ((cI v17 v19 2) = 1))) then bif ((decide ((-9223372036854775808) ≤ (v19 + 1))) && (decide ((v19 + 1) ≤ 9223372036854775807))) then go0 (v19 + 1) else none
  else (life_At n v15 (imin (imax (cI v17 v19 0) 0) 10000000)).bind fun y20 =>
  (bif (!(decide (y20.2.2.2.2 = 0))) then some false
  else (bif (decide ((cI v17 v19 1) < 0)) then some false
  else (bif (decide ((v16.length : Int) ≤ (cI v17 v19 1))) then some false
  else (bif (!(decide (y20.1 = 1))) then some false
  else bif (decide (0 ≤ (cI v17 v19 1))) then bif (decide ((cI v17 v19 1) < (v16.length : Int))) then (bif (!(decide (y20.2.1 = (cI v16 (cI v17 v19 1) 3)))) then some false
  else bif ((decide ((-9223372036854775808) ≤ (v19 + 1))) && (decide ((v19 + 1) ≤ 9223372036854775807))) then go0 (v19 + 1) else none) else none else none))))) else none
  else (chain_Holders n v9 v10 v11 v12 v13 v14 ([] : Lv) v16).bind fun y20 =>
  (bif (decide (y20.2 = 0)) then (bif (decide ((y20.1.length : Int) = 1)) then bif (decide (0 < (y20.1.length : Int))) then some (decide ((cI y20.1 0 0) = v10)) else none
  else some false)
  else some false))
def law17_ChainHolder_1 (n : Nat) (v0 v1 v2 v3 v4 v5 : Int) (v6 v7 : Lv) : Option law17_ChainHolder_a :=
  (law17_sane n ).bind fun y8 =>
  (bif (!y8) then some false
  else (ref17_Made n v0 v1 v2 v3 v4 v5 v6 v7).bind fun y9 =>
  (chain_Turns n y9.1 y9.2.1 y9.2.2.1 y9.2.2.2.1 y9.2.2.2.2.1 y9.2.2.2.2.2.1 y9.2.2.2.2.2.2.1 y9.2.2.2.2.2.2.2).bind fun y17 =>
  (bif (!(decide (y17.2 = 0))) then some false
  else (iterF (fun go0 s => law17_ChainHolder_2 n go0 y9.1 y9.2.1 y9.2.2.1 y9.2.2.2.1 y9.2.2.2.2.1 y9.2.2.2.2.2.1 y9.2.2.2.2.2.2.1 y9.2.2.2.2.2.2.2 y17.1 s) n (0 : law17_ChainHolder_s0))))
def law17_ChainHolder (n : Nat) (v0 v1 v2 v3 v4 v5 : Int) (v6 v7 : Lv) : Option law17_ChainHolder_a := law17_ChainHolder_1 n v0 v1 v2 v3 v4 v5 v6 v7
def law17_ChainHolder_t : FnT := ⟨[(true, [.int, .int, .int, .int, .int, .int, (.sl (.cons .int (.cons .int (.cons .int .nil)))), (.sl (.cons .int (.cons .int (.cons .int (.cons .int (.cons .int (.cons .int (.cons (.sl (.cons .int (.cons .int (.cons .int .nil)))) (.cons .int .nil)))))))))])], .b, fun n (s : Int × Int × Int × Int × Int × Int × Lv × Lv) => law17_ChainHolder n s.1 s.2.1 s.2.2.1 s.2.2.2.1 s.2.2.2.2.1 s.2.2.2.2.2.1 s.2.2.2.2.2.2.1 s.2.2.2.2.2.2.2⟩
theorem law17_ChainHolder_ok : law17_ChainHolder_t.ok Try.prog 8 := FnT.ok_of (cfg := ⟨[((8, 8, 6), .inv [(.tmp 6 .int)])], consE8, [], mapsE8⟩) (tab := law17_sane_T) (mt := mtE) pfit law17_sane_T_ok mtE_ok (fun s fn hf => by rw [Try.func8] at hf; cases hf; kernel_rfl) (fun n s => by kernel_rfl)
def law17_ChainHolder_T : Tab := (8, law17_ChainHolder_t) :: law17_sane_T
theorem law17_ChainHolder_T_ok : law17_ChainHolder_T.ok Try.prog := Tab.ok_cons law17_ChainHolder_ok law17_sane_T_ok
end
end Go.Proofs.Ytjllgiddmeiaoaa
