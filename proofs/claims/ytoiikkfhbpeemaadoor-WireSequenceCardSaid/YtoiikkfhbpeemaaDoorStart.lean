/-
  What a law's call may take from the row's own condition: the table of 16 numbers lies in memory as the program's text has it.
-/
import Derived.Test.YtoiikkfhbpeemaaDoorRows
import Derived.Test.YtoiikkfhbpeemaaDoorLaw
import Derived.Test.YtoiikkfhbpeemaaDoorWalk7
import Derived.SevenTiedAt
import Derived.Lib.LaidTab
namespace Go.Proofs.YtoiikkfhbpeemaaDoor
open Go Go.ChangeShapes Go.WideShapes Go.ChangeAt Go.WideMaps Go.WideElems Go.RowKit Go.Dial Go.Dial.Wire

theorem own : ownKnob Tryd.prog.godebug = none := by kernel_rfl
theorem laidOut : laidOutB Tryd.prog = true := by kernel_rfl
theorem gNib : Tryd.prog.globalNamed "dialtone/wire.nibbles" = some 0 := by kernel_rfl
theorem tNib : (Tryd.prog.globals[0]?).map (·.type) = some 52 := by kernel_rfl
abbrev laidN : List (String × DataW Unit) := [("dialtone/wire.nibbles", Rows.laid_dialtone_wire_nibbles)]
theorem door_met (os : Os) (args : Array Value) : laidMetH Tryd.prog laidN ((World.doorLaid Tryd.prog 400 os).forCall (fun _ _ => 0) ⟨#[], args, []⟩).memory :=
  laidMetH_of_parts3 (fuel := 8) (laidMet_of_run' 8 (by kernel_rfl) (by kernel_rfl)) (by kernel_rfl) (by kernel_rfl)

theorem table_of_laid {W : World} (h : laidMetH Tryd.prog laidN W) : Table W := by
  rw [MakeChecks.laidMetH_plain _ _ _ (by kernel_rfl)] at h
  obtain ⟨ps, ⟨g0, t0, cs0, f0, p0, q0, hg0, ht0, hv0, hd0, _, _⟩, _, _⟩ := h
  obtain rfl := Option.some.inj (gNib.symm.trans hg0)
  obtain rfl := Option.some.inj (tNib.symm.trans ht0)
  have hd1 : DataW.trod _ Tryd.prog W 0 (fun _ => true) false f0 52 cs0.toList = some (Lib.tabData .u32 (nib.map fun (n : Nat) => (n : Int)), p0) := hd0
  have hcs := Lib.cells_of_tab (k := .u32) Tryd.underlying52 Tryd.underlying43 (by kernel_rfl) (by kernel_rfl) hd1
  intro k hk
  rw [World.var?_cell hg0 hv0 k, ← Array.getElem?_toList, hcs]
  have hk' : k < nib.length := hk
  simp [hk', List.getD]

end Go.Proofs.YtoiikkfhbpeemaaDoor
