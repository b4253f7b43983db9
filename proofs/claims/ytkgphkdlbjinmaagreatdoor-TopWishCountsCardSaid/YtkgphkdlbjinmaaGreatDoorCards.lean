/-
  DERIVED. GIVEN WITH THE SEED: THE CARDS: each row of YtkgphkdlbjinmaaGreatDoorRows.lean that lists a variable, with what it lists TIED to the program's text (the seventh form; the later family's looks); each row that meets fmt, with fmt's text TOLD by the authors' own Lean function (tested against real Go, not proved from fmt's source: count such statements apart). THE CARD IS WHAT COUNTS. Prove the row's statement (the work); the ties are given (YtkgphkdlbjinmaaGreatDoorTie.lean); close each card by the builder's one call (the guide's Derived/Test/ToyasCard.lean, 'card_holds'). Laid BY PROGRAM, IN A SANDBOX (cutbox-door.mjs). By AI agents, Wed Nov 11 2026. No macro, syntax, notation, axiom, sorry.
-/
import Derived.Test.YtkgphkdlbjinmaaGreatDoorRows
import GoSem.ClaimSeven
namespace Go.Proofs.YtkgphkdlbjinmaaGreatDoor
namespace Rows

/-- THE TIED CARD OF 'dialtonetop.TopWishCounts'. -/
def topWishCountsCard : Claim7 := { stood := { row := topWishCountsRow, standIns := [], harness := (true, "ec64f1cc9c8cd47d65433b90f89bc1b28ea87f565f34a97dc80f3ba7504011b9"), looks := false }, kinds := [], alts := [], laidByText := true, laidKinds := [.data, .data, .data], laidTests := true, laidLooks := .later }
def TopWishCountsCardSaid : Prop := Claim7.holds Tryz.pinned (.plain (OpenSpec.ofChange topWishCountsSpec)) topWishCountsCard

/-- THE SECOND FORM's CARD OF 'dialtonetop.TopWishCounts'. -/
def topWishCountsUptoCard : Claim7 := { stood := { row := topWishCountsUptoRow, standIns := [], harness := (true, "ec64f1cc9c8cd47d65433b90f89bc1b28ea87f565f34a97dc80f3ba7504011b9"), looks := false }, kinds := [], alts := [], laidByText := true, laidKinds := [.data, .data, .data], laidTests := true, laidLooks := .later }
def TopWishCountsUptoCardSaid : Prop := Claim7.holds Tryz.pinned (.plain (OpenSpec.upto topWishCountsSpec)) topWishCountsUptoCard
end Rows
end Go.Proofs.YtkgphkdlbjinmaaGreatDoor
