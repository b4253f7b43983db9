/-
  Plain functions for functions of the program, each with its contract (printed by decomp.py).
-/
import Derived.Test.YtjllgiddmeiaoaaSxP
import Derived.Test.YtjllgiddmeiaoaaSx25
import Derived.Test.YtjllgiddmeiaoaaDS
set_option linter.unusedSimpArgs false
set_option linter.unusedVariables false
set_option maxRecDepth 100000
namespace Go.Proofs.Ytjllgiddmeiaoaa
open Go Go.Sx
noncomputable section
def consE11 : List Nat := [12, 13, 14, 15, 16, 17, 18, 19, 20, 21, 22, 23, 24, 25, 26, 27, 28, 29, 30, 31, 32, 33, 34, 35, 36, 37, 38, 41, 42, 43, 47, 49, 50, 52, 53, 54, 56, 57, 58, 61, 64, 79, 80, 82, 83, 84, 86, 87, 88, 89, 90, 100, 101, 106]
def mapsE11 : List (Nat × SV × SV) := [(69, SV.of [.agg (SV.of [.vi (.int 1), .vi (.int 1)]), .agg (SV.of [.vi (.int 2), .vi (.int 1)]), .agg (SV.of [.vi (.int 3), .vi (.int 2)]), .agg (SV.of [.vi (.int 4), .vi (.int 2)]), .agg (SV.of [.vi (.int 5), .vi (.int 1)]), .agg (SV.of [.vi (.int 5), .vi (.int 2)]), .agg (SV.of [.vi (.int 5), .vi (.int 3)]), .agg (SV.of [.vi (.int 6), .vi (.int 4)])], SV.of [.vi (.int 3), .vi (.int 2), .vi (.int 3), .vi (.int 6), .vi (.int 7), .vi (.int 7), .vi (.int 7), .vi (.int 8)])]
/-! dialtone/dialtonelaw17.ChainAlone -/
abbrev law17_ChainAlone_a := Bool
def law17_ChainAlone_1 (n : Nat) (v0 v1 v2 v3 v4 v5 : Int) (v6 v7 : Lv) (v8 v9 : Int) : Option law17_ChainAlone_a :=
  (law17_sane n ).bind fun y10 =>
  (bif (!y10) then some false
  else (ref17_Made n v0 v1 v2 v3 v4 v5 v6 v7).bind fun y11 =>
  (bif (decide ((y11.2.2.2.2.2.2.2.length : Int) = 0)) then (chain_Valid n y11.1 y11.2.1 y11.2.2.1 y11.2.2.2.1 y11.2.2.2.2.1 y11.2.2.2.2.2.1 y11.2.2.2.2.2.2.1 y11.2.2.2.2.2.2.2).bind fun y19 =>
  some y19
  else (law17_pick n v8 (y11.2.2.2.2.2.2.2.length : Int)).bind fun y19 =>
  bif (decide (0 ≤ y19)) then bif (decide (y19 < (y11.2.2.2.2.2.2.2.length : Int))) then (ref17_Time n y11.1 (cI y11.2.2.2.2.2.2.2 y19 1) y11.2.2.1 y11.2.2.2.1 y11.2.2.2.2.1 y11.2.2.2.2.2.1 y11.2.2.2.2.2.2.1 (([] : Lv) ++ [[(AV.int (cI y11.2.2.2.2.2.2.2 y19 0)), (AV.int (cI y11.2.2.2.2.2.2.2 y19 1)), (AV.int (cI y11.2.2.2.2.2.2.2 y19 2)), (AV.int (cI y11.2.2.2.2.2.2.2 y19 3)), (AV.int (cI y11.2.2.2.2.2.2.2 y19 4)), (AV.bool (cB y11.2.2.2.2.2.2.2 y19 5)), (AV.sl (.cons .int (.cons .int (.cons .int .nil))) (cL y11.2.2.2.2.2.2.2 y19 6))]]) v9).bind fun y20 =>
  (chain_Turns n y11.1 (cI y11.2.2.2.2.2.2.2 y19 1) y11.2.2.1 y11.2.2.2.1 y11.2.2.2.2.1 y11.2.2.2.2.2.1 y11.2.2.2.2.2.2.1 (([] : Lv) ++ [[(AV.int (cI y11.2.2.2.2.2.2.2 y19 0)), (AV.int (cI y11.2.2.2.2.2.2.2 y19 1)), (AV.int (cI y11.2.2.2.2.2.2.2 y19 2)), (AV.int (cI y11.2.2.2.2.2.2.2 y19 3)), (AV.int (cI y11.2.2.2.2.2.2.2 y19 4)), (AV.bool (cB y11.2.2.2.2.2.2.2 y19 5)), (AV.sl (.cons .int (.cons .int (.cons .int .nil))) (cL y11.2.2.2.2.2.2.2 y19 6))]])).bind fun y21 =>
  (chain_At n y11.1 (cI y11.2.2.2.2.2.2.2 y19 1) y11.2.2.1 y11.2.2.2.1 y11.2.2.2.2.1 y11.2.2.2.2.2.1 y11.2.2.2.2.2.2.1 (([] : Lv) ++ [[(AV.int (cI y11.2.2.2.2.2.2.2 y19 0)), (AV.int (cI y11.2.2.2.2.2.2.2 y19 1)), (AV.int (cI y11.2.2.2.2.2.2.2 y19 2)), (AV.int (cI y11.2.2.2.2.2.2.2 y19 3)), (AV.int (cI y11.2.2.2.2.2.2.2 y19 4)), (AV.bool (cB y11.2.2.2.2.2.2.2 y19 5)), (AV.sl (.cons .int (.cons .int (.cons .int .nil))) (cL y11.2.2.2.2.2.2.2 y19 6))]]) y20).bind fun y23 =>
  (claim_With n y11.2.2.1 y11.2.2.2.1 y11.2.2.2.2.1 y11.2.2.2.2.2.1 (cI y11.2.2.2.2.2.2.2 y19 0) (cI y11.2.2.2.2.2.2.2 y19 1) (cI y11.2.2.2.2.2.2.2 y19 2) (cI y11.2.2.2.2.2.2.2 y19 3) (cI y11.2.2.2.2.2.2.2 y19 4) (cB y11.2.2.2.2.2.2.2 y19 5) (cL y11.2.2.2.2.2.2.2 y19 6) y20).bind fun y26 =>
  (bif (!(decide (y21.2 = 0))) then some false
  else (bif (!(decide (y23.2.2 = 0))) then some false
  else (bif (!(decide (y26.2 = 0))) then some false
  else (bif (decide ((y21.1.length : Int) = 0)) then some (decide (y23.1 = (cI y11.2.2.2.2.2.2.2 y19 1)))
  else bif (decide (0 < (y21.1.length : Int))) then (bif (decide ((cI y21.1 0 2) = 2)) then some (decide (y23.1 = (cI y11.2.2.2.2.2.2.2 y19 1)))
  else (bif (decide ((cI y21.1 0 2) = 1)) then some (decide (y23.1 = y26.1))
  else some false)) else none)))) else none else none))
def law17_ChainAlone (n : Nat) (v0 v1 v2 v3 v4 v5 : Int) (v6 v7 : Lv) (v8 v9 : Int) : Option law17_ChainAlone_a := law17_ChainAlone_1 n v0 v1 v2 v3 v4 v5 v6 v7 v8 v9
def law17_ChainAlone_t : FnT := ⟨[(true, [.int, .int, .int, .int, .int, .int, (.sl (.cons .int (.cons .int (.cons .int .nil)))), (.sl (.cons .int (.cons .int (.cons .int (.cons .int (.cons .int (.cons .int (.cons (.sl (.cons .int (.cons .int (.cons .int .nil)))) (.cons .int .nil)))))))))]), (false, [.int]), (false, [.int])], .b, fun n (s : Int × Int × Int × Int × Int × Int × Lv × Lv × Int × Int) => law17_ChainAlone n s.1 s.2.1 s.2.2.1 s.2.2.2.1 s.2.2.2.2.1 s.2.2.2.2.2.1 s.2.2.2.2.2.2.1 s.2.2.2.2.2.2.2.1 s.2.2.2.2.2.2.2.2.1 s.2.2.2.2.2.2.2.2.2⟩
theorem law17_ChainAlone_ok : law17_ChainAlone_t.ok Try.prog 11 := FnT.ok_of (cfg := ⟨[], consE11, [], mapsE11⟩) (tab := law17_sane_T) (mt := mtE) pfit law17_sane_T_ok mtE_ok (fun s fn hf => by rw [Try.func11] at hf; cases hf; kernel_rfl) (fun n s => by kernel_rfl)
def law17_ChainAlone_T : Tab := (11, law17_ChainAlone_t) :: law17_sane_T
theorem law17_ChainAlone_T_ok : law17_ChainAlone_T.ok Try.prog := Tab.ok_cons law17_ChainAlone_ok law17_sane_T_ok
end
end Go.Proofs.Ytjllgiddmeiaoaa
