/-
  Plain functions for functions of the program, each with its contract (printed by decomp.py).
-/
import Derived.Test.YtjllgiddmeiaoaaSxP
import Derived.Test.YtjllgiddmeiaoaaSx25
import Derived.Test.YtjllgiddmeiaoaaDS
set_option linter.unusedSimpArgs false
set_option linter.unusedVariables false
set_option maxRecDepth 100000
namespace Go.Proofs.Ytjllgiddmeiaoaa
open Go Go.Sx
noncomputable section
def consE10 : List Nat := [12, 13, 14, 15, 16, 17, 18, 19, 20, 21, 22, 23, 24, 25, 26, 27, 28, 29, 30, 31, 32, 33, 34, 35, 36, 37, 38, 41, 42, 43, 47, 49, 50, 52, 53, 54, 56, 57, 58, 61, 64, 79, 80, 82, 83, 84, 86, 87, 88, 89, 90, 100, 101, 106]
def mapsE10 : List (Nat × SV × SV) := [(69, SV.of [.agg (SV.of [.vi (.int 1), .vi (.int 1)]), .agg (SV.of [.vi (.int 2), .vi (.int 1)]), .agg (SV.of [.vi (.int 3), .vi (.int 2)]), .agg (SV.of [.vi (.int 4), .vi (.int 2)]), .agg (SV.of [.vi (.int 5), .vi (.int 1)]), .agg (SV.of [.vi (.int 5), .vi (.int 2)]), .agg (SV.of [.vi (.int 5), .vi (.int 3)]), .agg (SV.of [.vi (.int 6), .vi (.int 4)])], SV.of [.vi (.int 3), .vi (.int 2), .vi (.int 3), .vi (.int 6), .vi (.int 7), .vi (.int 7), .vi (.int 7), .vi (.int 8)])]
/-! dialtone/dialtonelaw17.ChainNumbers -/
abbrev law17_ChainNumbers_a := Bool
def law17_ChainNumbers_1 (n : Nat) (v0 v1 v2 v3 v4 v5 : Int) (v6 v7 : Lv) (v8 v9 : Int) : Option law17_ChainNumbers_a :=
  (law17_sane n ).bind fun y10 =>
  (bif (!y10) then some false
  else (ref17_Made n v0 v1 v2 v3 v4 v5 v6 v7).bind fun y11 =>
  (chain_Valid n y11.1 y11.2.1 y11.2.2.1 y11.2.2.2.1 y11.2.2.2.2.1 y11.2.2.2.2.2.1 y11.2.2.2.2.2.2.1 y11.2.2.2.2.2.2.2).bind fun y19 =>
  (bif (!y19) then some false
  else (ref17_Copy n y11.1 y11.2.1 y11.2.2.1 y11.2.2.2.1 y11.2.2.2.2.1 y11.2.2.2.2.2.1 y11.2.2.2.2.2.2.1 y11.2.2.2.2.2.2.2).bind fun y20 =>
  bif (decide ((((y20.2.2.2.2.2.2.1.length : Int) + 1) * 24) ≤ 140737488355328)) then (life_Run n (y20.2.2.2.2.2.2.1 ++ [[(AV.int 7), (AV.int 0), (AV.int (-1))]])).bind fun y28 =>
  (bif (decide (y28.2.2.2.2.2 = 0)) then some false
  else (chain_Valid n y20.1 y20.2.1 y20.2.2.1 y20.2.2.2.1 y20.2.2.2.2.1 y20.2.2.2.2.2.1 (y20.2.2.2.2.2.2.1 ++ [[(AV.int 7), (AV.int 0), (AV.int (-1))]]) y20.2.2.2.2.2.2.2).bind fun y34 =>
  (bif y34 then some false
  else (ref14_Is n (y20.2.2.2.2.2.2.1 ++ [[(AV.int 7), (AV.int 0), (AV.int (-1))]])).bind fun y35 =>
  (bif y35 then some false
  else (bif (decide ((y11.2.2.2.2.2.2.2.length : Int) = 0)) then some true
  else bif (decide (((y11.2.2.2.2.2.2.2.length : Int) * 72) ≤ 140737488355328)) then (law17_pick n v8 (y11.2.2.2.2.2.2.2.length : Int)).bind fun y36 =>
  bif (decide (0 ≤ y36)) then bif (decide (y36 < (y11.2.2.2.2.2.2.2.length : Int))) then (chain_Valid n y11.1 y11.2.1 y11.2.2.1 y11.2.2.2.1 y11.2.2.2.2.1 y11.2.2.2.2.2.1 y11.2.2.2.2.2.2.1 (List.modify y11.2.2.2.2.2.2.2 (y36).toNat (fun r => r.set 0 (AV.int v9)))).bind fun y37 =>
  some (y37 == (decide (v9 = y11.1))) else none else none else none)))) else none))
def law17_ChainNumbers (n : Nat) (v0 v1 v2 v3 v4 v5 : Int) (v6 v7 : Lv) (v8 v9 : Int) : Option law17_ChainNumbers_a := law17_ChainNumbers_1 n v0 v1 v2 v3 v4 v5 v6 v7 v8 v9
def law17_ChainNumbers_t : FnT := ⟨[(true, [.int, .int, .int, .int, .int, .int, (.sl (.cons .int (.cons .int (.cons .int .nil)))), (.sl (.cons .int (.cons .int (.cons .int (.cons .int (.cons .int (.cons .int (.cons (.sl (.cons .int (.cons .int (.cons .int .nil)))) (.cons .int .nil)))))))))]), (false, [.int]), (false, [.int])], .b, fun n (s : Int × Int × Int × Int × Int × Int × Lv × Lv × Int × Int) => law17_ChainNumbers n s.1 s.2.1 s.2.2.1 s.2.2.2.1 s.2.2.2.2.1 s.2.2.2.2.2.1 s.2.2.2.2.2.2.1 s.2.2.2.2.2.2.2.1 s.2.2.2.2.2.2.2.2.1 s.2.2.2.2.2.2.2.2.2⟩
theorem law17_ChainNumbers_ok : law17_ChainNumbers_t.ok Try.prog 10 := FnT.ok_of (cfg := ⟨[], consE10, [], mapsE10⟩) (tab := law17_sane_T) (mt := mtE) pfit law17_sane_T_ok mtE_ok (fun s fn hf => by rw [Try.func10] at hf; cases hf; kernel_rfl) (fun n s => by kernel_rfl)
def law17_ChainNumbers_T : Tab := (10, law17_ChainNumbers_t) :: law17_sane_T
theorem law17_ChainNumbers_T_ok : law17_ChainNumbers_T.ok Try.prog := Tab.ok_cons law17_ChainNumbers_ok law17_sane_T_ok
end
end Go.Proofs.Ytjllgiddmeiaoaa
