/-
  Plain functions for functions of the program, each with its contract (printed by decomp.py).
-/
import Derived.Test.YtgckmifmjiklmaaGreatSxP
import Derived.Test.YtgckmifmjiklmaaGreatSx25
import Derived.Test.YtgckmifmjiklmaaGreatD12
set_option linter.unusedSimpArgs false
set_option linter.unusedVariables false
set_option maxRecDepth 100000
namespace Go.Proofs.YtgckmifmjiklmaaGreat
open Go Go.Sx
noncomputable section
def consD13 : List Nat := [11, 12, 13, 14, 15, 16, 17, 18, 19, 20, 21, 22, 23, 24, 25, 26, 27, 28, 29, 30, 31, 32, 33, 34, 35, 36, 37, 38, 40, 46, 47, 51, 52, 54, 55, 56, 57, 58, 59, 61, 62, 63, 64, 66, 67, 69, 80, 83, 87, 90, 91, 92, 95, 96, 115, 116, 121, 122, 127, 128, 164, 165, 166, 197, 198, 201, 204, 205, 216, 229, 1000012, 1000056, 1000197, 1000216, 1000229]
/-! dialtone/dialtonelaw42.sane -/
abbrev law42_sane_a := Bool
def law42_sane_1 (n : Nat) : Option law42_sane_a :=
  (law42_example n ).bind fun y0 =>
  (law42_events n ).bind fun y5 =>
  bif (decide (0 < (y5.length : Int))) then (merge_Step n y0.1 y0.2.1 y0.2.2.1 y0.2.2.2.1 y0.2.2.2.2 (cI y5 0 0) (cI y5 0 1) (cI y5 0 2) (cI y5 0 3) (cI y5 0 4) (cI y5 0 5) (cI y5 0 6) (cI y5 0 7)).bind fun y6 =>
  (law42_example n ).bind fun y12 =>
  (law42_events n ).bind fun y17 =>
  (merge_Run n y12.1 y12.2.1 y12.2.2.1 y12.2.2.2.1 y12.2.2.2.2 y17).bind fun y18 =>
  (law42_events n ).bind fun y25 =>
  bif (decide ((((y25.length : Int) + 1) * 64) ≤ 140737488355328)) then (law42_example n ).bind fun y26 =>
  (merge_Run n y26.1 y26.2.1 y26.2.2.1 y26.2.2.2.1 y26.2.2.2.2 (y25 ++ [[(AV.int 2), (AV.int 30), (AV.int 2), (AV.int 1), (AV.int 0), (AV.int 100), (AV.int 110), (AV.int 0)]])).bind fun y31 =>
  (law42_events n ).bind fun y38 =>
  bif (decide ((((((y38.length : Int) + 1) + 1) + 1) * 64) ≤ 140737488355328)) then (law42_example n ).bind fun y39 =>
  (merge_Run n y39.1 y39.2.1 y39.2.2.1 y39.2.2.2.1 y39.2.2.2.2 (((y38 ++ [[(AV.int 4), (AV.int 30), (AV.int 2), (AV.int 0), (AV.int 0), (AV.int 0), (AV.int 0), (AV.int 0)]]) ++ [[(AV.int 4), (AV.int 30), (AV.int 3), (AV.int 0), (AV.int 0), (AV.int 0), (AV.int 0), (AV.int 0)]]) ++ [[(AV.int 4), (AV.int 40), (AV.int 2), (AV.int 0), (AV.int 0), (AV.int 0), (AV.int 0), (AV.int 0)]])).bind fun y44 =>
  (law42_example n ).bind fun y51 =>
  bif (decide (((((((y38.length : Int) + 1) + 1) + 1) + 1) * 64) ≤ 140737488355328)) then (merge_Run n y51.1 y51.2.1 y51.2.2.1 y51.2.2.2.1 y51.2.2.2.2 ((((y38 ++ [[(AV.int 4), (AV.int 30), (AV.int 2), (AV.int 0), (AV.int 0), (AV.int 0), (AV.int 0), (AV.int 0)]]) ++ [[(AV.int 4), (AV.int 30), (AV.int 3), (AV.int 0), (AV.int 0), (AV.int 0), (AV.int 0), (AV.int 0)]]) ++ [[(AV.int 4), (AV.int 40), (AV.int 2), (AV.int 0), (AV.int 0), (AV.int 0), (AV.int 0), (AV.int 0)]]) ++ [[(AV.int 4), (AV.int 40), (AV.int 2), (AV.int 0), (AV.int 0), (AV.int 0), (AV.int 0), (AV.int 0)]])).bind fun y56 =>
  (law42_example n ).bind fun y63 =>
  (law42_events n ).bind fun y68 =>
  (merge_Claim n y63.1 y63.2.1 y63.2.2.1 y63.2.2.2.1 y63.2.2.2.2 y68 100 1 2 4 0 false 5).bind fun y69 =>
  (law42_example n ).bind fun y76 =>
  (law42_events n ).bind fun y81 =>
  (merge_Claim n y76.1 y76.2.1 y76.2.2.1 y76.2.2.2.1 y76.2.2.2.2 y81 100 1 2 4 0 false 20).bind fun y82 =>
  (law42_example n ).bind fun y89 =>
  (law42_events n ).bind fun y94 =>
  (merge_Debts n y89.1 y89.2.1 y89.2.2.1 y89.2.2.2.1 y89.2.2.2.2 y94 (([] : Lv) ++ [[(AV.int 2), (AV.int 1), (AV.int 50)]])).bind fun y95 =>
  (bif (!(decide (y6.2.2.2.2.2 = 0))) then some false
  else (bif (!(decide (y18.2.2.2.2.2.2 = 0))) then some false
  else (bif (!(decide (y31.2.2.2.2.2.2 = 420))) then some false
  else (bif (!(decide (y44.2.2.2.2.2.2 = 0))) then some false
  else (bif (!(decide (y56.2.2.2.2.2.2 = 420))) then some false
  else (bif (!(decide (y95.2 = 0))) then some false
  else (bif (!(decide (y18.2.2.2.2.2.1 = 2))) then some false
  else (bif (!(decide (y31.2.2.2.2.2.1 = 2))) then some false
  else (bif (!(decide (y44.2.2.2.2.2.1 = 5))) then some false
  else (bif (!(decide (y56.2.2.2.2.2.1 = 5))) then some false
  else (bif (!y69.2.2.2.2.2.2) then some false
  else (bif y82.2.2.2.2.2.2 then some false
  else (bif (!((decide (y69.1 = 100)) && ((decide (y69.2.1 = 1)) && ((decide (y69.2.2.1 = 2)) && ((decide (y69.2.2.2.1 = 4)) && ((decide (y69.2.2.2.2.1 = 0)) && (y69.2.2.2.2.2.1 == false))))))) then some false
  else (bif (!(decide ((y95.1.length : Int) = 1))) then some false
  else (ref42_Same n y6.1 y6.2.1 y6.2.2.1 y6.2.2.2.1 y6.2.2.2.2.1 14 14 ((((([] : Lv) ++ [[(AV.int 100), (AV.int 150), (AV.int 1)]]) ++ [[(AV.int 150), (AV.int 180), (AV.int 3)]]) ++ [[(AV.int 180), (AV.int 200), (AV.int 1)]]) ++ [[(AV.int 200), (AV.int 300), (AV.int 2)]]) ((((((((([] : Lv) ++ [[(AV.int 0)]]) ++ [[(AV.int 30)]]) ++ [[(AV.int (-50))]]) ++ [[(AV.int 20)]]) ++ [[(AV.int 0)]]) ++ [[(AV.int 0)]]) ++ [[(AV.int 0)]]) ++ [[(AV.int 0)]]) (List.replicate ((8 : Int)).toNat [(AV.int 0)])).bind fun y97 =>
  (ref42_Same n y18.1 y18.2.1 y18.2.2.1 y18.2.2.2.1 y18.2.2.2.2.1 12 14 (((([] : Lv) ++ [[(AV.int 100), (AV.int 150), (AV.int 2)]]) ++ [[(AV.int 150), (AV.int 180), (AV.int 3)]]) ++ [[(AV.int 180), (AV.int 300), (AV.int 2)]]) ((((((((([] : Lv) ++ [[(AV.int 0)]]) ++ [[(AV.int 0)]]) ++ [[(AV.int (-20))]]) ++ [[(AV.int 20)]]) ++ [[(AV.int 0)]]) ++ [[(AV.int 0)]]) ++ [[(AV.int 0)]]) ++ [[(AV.int 0)]]) (List.replicate ((8 : Int)).toNat [(AV.int 0)])).bind fun y98 =>
  (ref42_Ints n y44.2.2.2.2.1 ((((((((([] : Lv) ++ [[(AV.int 0)]]) ++ [[(AV.int 0)]]) ++ [[(AV.int 2)]]) ++ [[(AV.int 1)]]) ++ [[(AV.int 0)]]) ++ [[(AV.int 0)]]) ++ [[(AV.int 0)]]) ++ [[(AV.int 0)]])).bind fun y99 =>
  (bif y97 then (bif y98 then (bif y99 then (law42_succeeds n 160 5 1).bind fun y100 =>
  (bif y100 then (law42_succeeds n 160 10 3).bind fun y101 =>
  (bif y101 then (law42_succeeds n 160 20 3).bind fun y102 =>
  (bif y102 then (law42_succeeds n 100 20 2).bind fun y103 =>
  (bif y103 then bif (decide (0 < (y95.1.length : Int))) then (bif ((decide ((cI y95.1 0 0) = 2)) && ((decide ((cI y95.1 0 1) = 3)) && (decide ((cI y95.1 0 2) = 20)))) then (law42_example n ).bind fun y104 =>
  (merge_Valid n y104.1 y104.2.1 y104.2.2.1 y104.2.2.2.1 y104.2.2.2.2).bind fun y109 =>
  (bif y109 then (merge_Valid n 0 0 ([] : Lv) ([] : Lv) ([] : Lv)).bind fun y110 =>
  some (!y110)
  else some false)
  else some false) else none
  else some false)
  else some false)
  else some false)
  else some false)
  else some false)
  else some false)
  else some false))))))))))))))) else none else none else none else none
def law42_sane (n : Nat) : Option law42_sane_a := law42_sane_1 n
def law42_sane_t : FnT := ⟨[], .b, fun n (s : Unit) => law42_sane n⟩
theorem law42_sane_ok : law42_sane_t.ok Tryz.prog 11 := FnT.ok_of (cfg := ⟨[], consD13, [], []⟩) (tab := law42_succeeds_T) (mt := mt0) pfit law42_succeeds_T_ok mt0_ok (fun s fn hf => by rw [Tryz.func11] at hf; cases hf; kernel_rfl) (fun n s => by kernel_rfl)
def law42_sane_T : Tab := (11, law42_sane_t) :: law42_succeeds_T
theorem law42_sane_T_ok : law42_sane_T.ok Tryz.prog := Tab.ok_cons law42_sane_ok law42_succeeds_T_ok
end
end Go.Proofs.YtgckmifmjiklmaaGreat
