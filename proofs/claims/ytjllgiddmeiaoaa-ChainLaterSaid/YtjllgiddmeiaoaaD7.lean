/-
  Plain functions for functions of the program, each with its contract (printed by decomp.py).
-/
import Derived.Test.YtjllgiddmeiaoaaSxP
import Derived.Test.YtjllgiddmeiaoaaSx25
import Derived.Test.YtjllgiddmeiaoaaD9
set_option linter.unusedSimpArgs false
set_option linter.unusedVariables false
set_option maxRecDepth 100000
namespace Go.Proofs.Ytjllgiddmeiaoaa
open Go Go.Sx
noncomputable section
def consD7 : List Nat := [12, 13, 14, 15, 16, 17, 18, 19, 20, 21, 22, 23, 24, 25, 26, 27, 28, 29, 30, 31, 32, 33, 34, 35, 36, 37, 38, 41, 42, 43, 47, 49, 50, 52, 53, 54, 56, 57, 58, 61, 64, 79, 80, 82, 83, 84, 86, 87, 88, 89, 90, 100, 101, 106]
def mapsD7 : List (Nat × SV × SV) := [(69, SV.of [.agg (SV.of [.vi (.int 1), .vi (.int 1)]), .agg (SV.of [.vi (.int 2), .vi (.int 1)]), .agg (SV.of [.vi (.int 3), .vi (.int 2)]), .agg (SV.of [.vi (.int 4), .vi (.int 2)]), .agg (SV.of [.vi (.int 5), .vi (.int 1)]), .agg (SV.of [.vi (.int 5), .vi (.int 2)]), .agg (SV.of [.vi (.int 5), .vi (.int 3)]), .agg (SV.of [.vi (.int 6), .vi (.int 4)])], SV.of [.vi (.int 3), .vi (.int 2), .vi (.int 3), .vi (.int 6), .vi (.int 7), .vi (.int 7), .vi (.int 7), .vi (.int 8)])]
/-! dialtone/dialtonelaw17.sane -/
abbrev law17_saneX_a := Bool
abbrev law17_saneX_s0 := Int
def law17_saneX_5 (n : Nat) (go0 : law17_saneX_s0 → Option law17_saneX_a) (v0 v1 v2 v3 v4 v5 : Int) (v6 v7 : Lv) (v45 : Int) : Option law17_saneX_a :=
  (bif (decide (v45 < 3)) then bif (decide (0 ≤ v45)) then (chain_Open n v0 v1 v2 v3 v4 v5 v6 v7 (cI (((([] : Lv) ++ [[(AV.int 119)]]) ++ [[(AV.int 125)]]) ++ [[(AV.int 300)]]) v45 0)).bind fun y46 =>
  (bif (!(decide (y46.2 = 0))) then some false
  else (ref16_Ints n y46.1 (cL (((([] : Lv) ++ [[(AV.sl (.cons .int .nil) ((([] : Lv) ++ [[(AV.int 0)]]) ++ [[(AV.int 1)]]))]]) ++ [[(AV.sl (.cons .int .nil) (((([] : Lv) ++ [[(AV.int 0)]]) ++ [[(AV.int 1)]]) ++ [[(AV.int 2)]]))]]) ++ [[(AV.sl (.cons .int .nil) ([] : Lv))]]) v45 0)).bind fun y48 =>
  (bif (!y48) then some false
  else bif ((decide ((-9223372036854775808) ≤ (v45 + 1))) && (decide ((v45 + 1) ≤ 9223372036854775807))) then go0 (v45 + 1) else none)) else none
  else (chain_Settled n v0 v1 v2 v3 v4 v5 v6 v7).bind fun y46 =>
  (chain_At n v0 v1 v2 v3 v4 v5 v6 v7 20000001).bind fun y48 =>
  (bif (decide (y46.2 = 0)) then (bif (decide (y46.1 = 254)) then (bif (decide (y48.2.2 = 170)) then (chain_Valid n v0 v1 v2 v3 v4 v5 v6 v7).bind fun y51 =>
  (bif y51 then (chain_Valid n 0 8 0 0 0 0 ([] : Lv) ([] : Lv)).bind fun y52 =>
  some (!y52)
  else some false)
  else some false)
  else some false)
  else some false))
def law17_saneX_4 (n : Nat) (go0 : law17_saneX_s0 → Option law17_saneX_a) (v0 v1 v2 v3 v4 v5 : Int) (v6 v7 : Lv) (v11 : Int) : Option law17_saneX_a :=
  (bif (decide (v11 < 3)) then bif (decide (0 ≤ v11)) then (chain_At n v0 v1 v2 v3 v4 v5 v6 v7 (cI (((([] : Lv) ++ [[(AV.int 114)]]) ++ [[(AV.int 115)]]) ++ [[(AV.int 120)]]) v11 0)).bind fun y12 =>
  (bif (!(decide (y12.2.2 = 0))) then some false
  else (bif (!(decide (y12.1 = (cI (((([] : Lv) ++ [[(AV.int 1)]]) ++ [[(AV.int 2)]]) ++ [[(AV.int 3)]]) v11 0)))) then some false
  else bif (decide (v11 ≤ 2)) then (ref16_Ints n y12.2.1 (List.take (v11).toNat ((([] : Lv) ++ [[(AV.int 0)]]) ++ [[(AV.int 1)]]))).bind fun y15 =>
  (bif (!y15) then some false
  else bif ((decide ((-9223372036854775808) ≤ (v11 + 1))) && (decide ((v11 + 1) ≤ 9223372036854775807))) then go0 (v11 + 1) else none) else none)) else none
  else (law17_example n 120 (([] : Lv) ++ [[(AV.int 6), (AV.int 150), (AV.int 2)]]) (([] : Lv) ++ [[(AV.int 1), (AV.int 121), (AV.int 0)]])).bind fun y12 =>
  (chain_Turns n y12.1 y12.2.1 y12.2.2.1 y12.2.2.2.1 y12.2.2.2.2.1 y12.2.2.2.2.2.1 y12.2.2.2.2.2.2.1 y12.2.2.2.2.2.2.2).bind fun y20 =>
  (law17_example n 120 (([] : Lv) ++ [[(AV.int 6), (AV.int 150), (AV.int 2)]]) (([] : Lv) ++ [[(AV.int 1), (AV.int 121), (AV.int 0)]])).bind fun y22 =>
  (chain_Holders n y22.1 y22.2.1 y22.2.2.1 y22.2.2.2.1 y22.2.2.2.2.1 y22.2.2.2.2.2.1 y22.2.2.2.2.2.2.1 y22.2.2.2.2.2.2.2).bind fun y30 =>
  (law17_example n 135 (([] : Lv) ++ [[(AV.int 6), (AV.int 150), (AV.int 2)]]) ([] : Lv)).bind fun y32 =>
  (chain_Turns n y32.1 y32.2.1 y32.2.2.1 y32.2.2.2.1 y32.2.2.2.2.1 y32.2.2.2.2.2.1 y32.2.2.2.2.2.2.1 y32.2.2.2.2.2.2.2).bind fun y40 =>
  (bif (!(decide (y20.2 = 0))) then some false
  else (bif (!(decide (y30.2 = 0))) then some false
  else (bif (!(decide (y40.2 = 0))) then some false
  else (ref17_SameTurns n y20.1 (((((([] : Lv) ++ [[(AV.int 115), (AV.int 0), (AV.int 1)]]) ++ [[(AV.int 120), (AV.int 1), (AV.int 1)]]) ++ [[(AV.int 126), (AV.int 2), (AV.int 2)]]) ++ [[(AV.int 150), (AV.int 1), (AV.int 4)]]) ++ [[(AV.int 150), (AV.int 0), (AV.int 3)]])).bind fun y42 =>
  (bif (!y42) then some false
  else (ref17_SameHeld n y30.1 ((((([] : Lv) ++ [[(AV.int 1), (AV.int 0), (AV.int 115)]]) ++ [[(AV.int 2), (AV.int 115), (AV.int 120)]]) ++ [[(AV.int 3), (AV.int 120), (AV.int 150)]]) ++ [[(AV.int 1), (AV.int 150), (AV.int 20000001)]])).bind fun y43 =>
  (bif (!y43) then some false
  else (ref17_SameTurns n y40.1 (((((([] : Lv) ++ [[(AV.int 115), (AV.int 0), (AV.int 1)]]) ++ [[(AV.int 120), (AV.int 1), (AV.int 1)]]) ++ [[(AV.int 150), (AV.int 1), (AV.int 4)]]) ++ [[(AV.int 150), (AV.int 0), (AV.int 3)]]) ++ [[(AV.int 150), (AV.int 2), (AV.int 1)]])).bind fun y44 =>
  (bif (!y44) then some false
  else (iterF (fun go0 s => law17_saneX_5 n go0 v0 v1 v2 v3 v4 v5 v6 v7 s) n (0 : law17_saneX_s0)))))))))
def law17_saneX_3 (n : Nat) (v0 v1 v2 v3 v4 v5 : Int) (v6 v7 : Lv) (v10 : Bool) : Option law17_saneX_a :=
  (bif (!v10) then some false
  else (iterF (fun go0 s => law17_saneX_4 n go0 v0 v1 v2 v3 v4 v5 v6 v7 s) n (0 : law17_saneX_s0)))
def law17_saneX_2 (n : Nat) (v0 v1 v2 v3 v4 v5 : Int) (v6 v7 v8 : Lv) (v9 : Int) : Option law17_saneX_a :=
  (bif (!(decide (v9 = 0))) then some false
  else (ref17_SameTurns n v8 (((([] : Lv) ++ [[(AV.int 115), (AV.int 0), (AV.int 1)]]) ++ [[(AV.int 120), (AV.int 1), (AV.int 1)]]) ++ [[(AV.int 126), (AV.int 2), (AV.int 2)]])).bind fun y10 =>
  law17_saneX_3 n v0 v1 v2 v3 v4 v5 v6 v7 y10)
def law17_saneX_1 (n : Nat) : Option law17_saneX_a :=
  (law17_example n 120 ([] : Lv) (([] : Lv) ++ [[(AV.int 1), (AV.int 121), (AV.int 0)]])).bind fun y0 =>
  (chain_Turns n y0.1 y0.2.1 y0.2.2.1 y0.2.2.2.1 y0.2.2.2.2.1 y0.2.2.2.2.2.1 y0.2.2.2.2.2.2.1 y0.2.2.2.2.2.2.2).bind fun y8 =>
  law17_saneX_2 n y0.1 y0.2.1 y0.2.2.1 y0.2.2.2.1 y0.2.2.2.2.1 y0.2.2.2.2.2.1 y0.2.2.2.2.2.2.1 y0.2.2.2.2.2.2.2 y8.1 y8.2
def law17_saneX (n : Nat) : Option law17_saneX_a := law17_saneX_1 n
def law17_saneX_t : FnT := ⟨[], .b, fun n (s : Unit) => law17_saneX n⟩
theorem law17_saneX_ok : law17_saneX_t.ok Try.prog 12 := FnT.ok_of (cfg := ⟨[((12, 11, 14), .inv [(.tmp 9 .int)]), ((12, 27, 37), .inv [(.tmp 24 .int)])], consD7, [], mapsD7⟩) (tab := chain_Holders_T) (mt := mtE) pfit chain_Holders_T_ok mtE_ok (fun s fn hf => by rw [Try.func12] at hf; cases hf; kernel_rfl) (fun n s => by kernel_rfl)
def law17_saneX_T : Tab := (12, law17_saneX_t) :: chain_Holders_T
theorem law17_saneX_T_ok : law17_saneX_T.ok Try.prog := Tab.ok_cons law17_saneX_ok chain_Holders_T_ok
end
end Go.Proofs.Ytjllgiddmeiaoaa
