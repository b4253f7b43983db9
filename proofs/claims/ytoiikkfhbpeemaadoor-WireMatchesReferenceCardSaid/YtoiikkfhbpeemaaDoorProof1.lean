/-
  WireMatchesReference: for every integer, string and offset, the functions of package wire and of the reference implementation return the same; no condition beyond the row's own.
-/
import Derived.Test.YtoiikkfhbpeemaaDoorRows
import Derived.Test.YtoiikkfhbpeemaaDoorCards
import Derived.Test.YtoiikkfhbpeemaaDoorTie
import Derived.Test.YtoiikkfhbpeemaaDoorLaw
import Derived.Test.YtoiikkfhbpeemaaDoorLaw1
import Derived.SevenTiedAt
import Derived.Lib.LaidTab
namespace Go.Proofs.YtoiikkfhbpeemaaDoor
open Go Go.ChangeShapes Go.WideShapes Go.ChangeAt Go.WideMaps Go.WideElems Go.RowKit Go.Dial Go.Dial.Wire

theorem own : ownKnob Tryd.prog.godebug = none := by kernel_rfl
theorem laidOut : laidOutB Tryd.prog = true := by kernel_rfl
theorem gNib : Tryd.prog.globalNamed "dialtone/wire.nibbles" = some 0 := by kernel_rfl
theorem tNib : (Tryd.prog.globals[0]?).map (·.type) = some 52 := by kernel_rfl
abbrev laidN : List (String × DataW Unit) := [("dialtone/wire.nibbles", Rows.laid_dialtone_wire_nibbles)]
theorem door_met (os : Os) (args : Array Value) : laidMetH Tryd.prog laidN ((World.doorLaid Tryd.prog 400 os).forCall (fun _ _ => 0) ⟨#[], args, []⟩).memory :=
  laidMetH_of_parts3 (fuel := 8) (laidMet_of_run' 8 (by kernel_rfl) (by kernel_rfl)) (by kernel_rfl) (by kernel_rfl)

theorem table_of_laid {W : World} (h : laidMetH Tryd.prog laidN W) : Table W := by
  rw [MakeChecks.laidMetH_plain _ _ _ (by kernel_rfl)] at h
  obtain ⟨ps, ⟨g0, t0, cs0, f0, p0, q0, hg0, ht0, hv0, hd0, _, _⟩, _, _⟩ := h
  obtain rfl := Option.some.inj (gNib.symm.trans hg0)
  obtain rfl := Option.some.inj (tNib.symm.trans ht0)
  have hd1 : DataW.trod _ Tryd.prog W 0 (fun _ => true) false f0 52 cs0.toList = some (Lib.tabData .u32 (nib.map fun (n : Nat) => (n : Int)), p0) := hd0
  have hcs := Lib.cells_of_tab (k := .u32) Tryd.underlying52 Tryd.underlying43 (by kernel_rfl) (by kernel_rfl) hd1
  intro k hk
  rw [World.var?_cell hg0 hv0 k, ← Array.getElem?_toList, hcs]
  have hk' : k < nib.length := hk
  simp [hk', List.getD]

set_option maxRecDepth 100000 in
theorem lifted1 (os : Os) (started : os.Started) (H : Type) (enc : TypeId × Value → H) :
    ReturnsInHanded {} Tryd.checked os 3 .any (fun w args => (Rows.wireMatchesReferenceSpec.pre enc Tryd.prog Tryd.f3 [] false w args ∧ laidMetH Tryd.prog laidN w) ∧ sizedMet enc Tryd.prog Tryd.f3 (OpenSpec.ofChange Rows.wireMatchesReferenceSpec) false w args)
      (Rows.wireMatchesReferenceSpec.post enc Tryd.prog Tryd.f3 false true false false) := by
  refine returnsInHanded_of_change_and (C := Tryd.checked) (X := fun w _ => laidMetH Tryd.prog laidN w) (fun _ _ _ hh h => h.of_heap hh) own started (by kernel_rfl) Tryd.func3
    (ChangeSpec.witness_shaped (enc := enc) (C := Tryd.checked) (os := os) (X := fun w _ => laidMetH Tryd.prog laidN w) false (World.doorLaid Tryd.prog 400 os) #[.int .i64 0, .string ⟨#[]⟩, .int .i64 0] 8 rfl (World.shaped_of_RefB (by kernel_rfl) (by kernel_rfl)) (by kernel_rfl) (by kernel_rfl) (by kernel_rfl) (door_met os _)) ?_
  intro W base args ds gs before hval0 hW _ _ hL _
  have hval : ∀ (j : Nat) t v, Tryd.f3.params[j]? = some t → args[j]? = some v → Value.okWide Tryd.prog W .any base t v := hval0
  have hW' := hW
  obtain ⟨p, q, hA0, hV, rfl, hfz, hnd⟩ := hW
  have hA : DataW.TrodAll enc Tryd.prog W 0 (fun _ => true) true Tryd.f3.params.toList args.toList ds p := hA0
  rw [Tryd.params3] at hA hval
  obtain ⟨v0, v1, v2, d0, d1, d2, p0, p1, p2, rfl, rfl, rfl, h0, h1, h2⟩ := trodAll_three hA
  obtain ⟨x0, rfl, a0, b0⟩ := in_i64 Tryd.underlying3 (hval 0 3 v0 rfl rfl) h0
  obtain ⟨x1, rfl, a1⟩ := in_string Tryd.underlying9 (hval 1 9 v1 rfl rfl) h1
  obtain ⟨x2, rfl, a2, b2⟩ := in_i64 Tryd.underlying3 (hval 2 3 v2 rfl rfl) h2
  refine (law1_any x0 x1 x2 W (table_of_laid hL) a1 a0 b0 a2 b2).mono fun e W2 ⟨he, hb⟩ => ⟨_, he, ?_⟩
  exact law_post hW' rfl rfl rfl rfl laidOut (by rw [Tryd.params3]; exact all_read (by kernel_rfl)) rfl Tryd.underlying4 hb

theorem holds1 : Rows.WireMatchesReferenceSaid :=
  OpenClaim.holds_of_wide 3 Tryd.f3 rfl rfl rfl rfl rfl rfl rfl ⟨rfl, rfl, rfl, rfl, rfl⟩ rfl rfl rfl rfl rfl (by kernel_rfl) Tryd.func3 (by kernel_rfl)
    (of_decide_eq_true (by kernel_rfl)) (by unfold Func.isWrapper; first | (rw [if_pos (by decide +kernel)]; kernel_rfl) | (rw [if_neg (by decide +kernel)]; exact ⟨rfl, rfl⟩))
    (fun os started H enc _ => lifted1 os started H enc)

theorem card1 : Rows.WireMatchesReferenceCardSaid :=
  Claim7.holds_tied_plain_at .later [] [.data] true (true, "702e1e2cef83856bc72c8ff3f44ce74ff9092edd490cab8dfd188815a89734bc") false
    holds1 (fun _ h => by cases h) (by kernel_rfl) (fun _ h => by cases h) wireMatchesReference_row_tie rfl ⟨rfl, rfl⟩ (by kernel_rfl) rfl
    (fun f fn hf hfn => by
      obtain rfl : f = 3 := Option.some.inj ((show Tryd.prog.funcNamed "dialtone/dialtonelaw01.WireMatchesReference" = some 3 by kernel_rfl).symm.trans hf) |>.symm
      obtain rfl : fn = Tryd.f3 := (Option.some.inj (Tryd.func3.symm.trans hfn)).symm
      exact ⟨by kernel_rfl, fun j t ht => by
        rw [Tryd.params3] at ht
        exact none_wants (by kernel_rfl) j t ht⟩)
    (by kernel_rfl)
#print axioms card1
end Go.Proofs.YtoiikkfhbpeemaaDoor
