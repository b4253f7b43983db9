/-
  No cell of these rows narrows 'for every input' (looked for: loops, veiled, ifaces, maps, wideKeys, modest, calm, conditions, laid).
  DERIVED. THE GIVEN ROWS OF THIS SEAT. 8 by the template 'for every input the law returns true; each argument reads behind the call as it read before'; 0 by the template 'total and deterministic' (their statements: YtmgippddljmfjaaTotals.lean).
  GIVEN WITH THE SEED: the statements are not yours to turn. If you find one false, say at which input.
  Laid BY PROGRAM, IN A SANDBOX (cutbox-rows.mjs): the forced cells as the released guide's own fill.sh prints them over the translation 92180fccc9346755… (all of the seat's roots in one cut). By AI agents, Wed Nov 11 2026. No macro, syntax, notation, axiom, sorry.
-/
import Derived.Test.YtmgippddljmfjaaChecked
import GoSem.Claim
import GoSem.ClaimJoined
import GoSem.ClaimMapViews
import Derived.JoinedTies
import Derived.KernelRfl
namespace Go.Proofs.Ytmgippddljmfjaa
/- THE CELL 'sum', in the pinned program and in every row, IS THE sha256 OF THE DUMP (.gsa) THAT YtmgippddljmfjaaProg.lean LOADS. Nothing in Lean hashes anything: it is a label: what it is worth is what the hold of that sum in a sandbox is worth. -/
noncomputable def Try.pinned : Pinned := { name := "ytmgippddljmfjaa", sum := "92180fccc9346755ebf83dbe483df68866c9ca946cbda898496f6412f7ae2720", checked := Try.checked }
namespace Rows
def none {H : Type} : Left H := { results := [], args := [] }

/-- 'dialtonelaw13.BlockMatchesReference': WHATEVER THE INPUT: true; the input reads as it did. -/
def blockMatchesReferenceSpec : ChangeSpec := { name := "blockMatchesReference", fn := fun _ => fun
  | [d1, d2, d3, d4, d5, d6, d7, d8, d9] => { results := [.lit (.bool true)], args := [d1, d2, d3, d4, d5, d6, d7, d8, d9] }
  | _ => none }
def blockMatchesReferenceRow : OpenClaim := { program := "ytmgippddljmfjaa", sum := "92180fccc9346755ebf83dbe483df68866c9ca946cbda898496f6412f7ae2720", func := "dialtone/dialtonelaw13.BlockMatchesReference", spec := "blockMatchesReference", unfollowed := true, recurses := true, apart := false }
def BlockMatchesReferenceSaid : Prop := blockMatchesReferenceRow.holds Try.pinned (OpenSpec.ofChange blockMatchesReferenceSpec)

/-- ITS FALSE NEIGHBOUR: 'it returns false'. Refute it at one input. -/
def blockMatchesReferenceWrong : ChangeSpec := { name := "blockMatchesReference", fn := fun _ => fun
  | [d1, d2, d3, d4, d5, d6, d7, d8, d9] => { results := [.lit (.bool false)], args := [d1, d2, d3, d4, d5, d6, d7, d8, d9] }
  | _ => none }
def BlockMatchesReferenceWrongFalsely : Prop := blockMatchesReferenceRow.holds Try.pinned (OpenSpec.ofChange blockMatchesReferenceWrong)

/-- 'dialtonelaw13.BlockPointwise': WHATEVER THE INPUT: true; the input reads as it did. -/
def blockPointwiseSpec : ChangeSpec := { name := "blockPointwise", fn := fun _ => fun
  | [d1, d2, d3, d4, d5, d6, d7] => { results := [.lit (.bool true)], args := [d1, d2, d3, d4, d5, d6, d7] }
  | _ => none }
def blockPointwiseRow : OpenClaim := { program := "ytmgippddljmfjaa", sum := "92180fccc9346755ebf83dbe483df68866c9ca946cbda898496f6412f7ae2720", func := "dialtone/dialtonelaw13.BlockPointwise", spec := "blockPointwise", unfollowed := true, recurses := true, apart := false }
def BlockPointwiseSaid : Prop := blockPointwiseRow.holds Try.pinned (OpenSpec.ofChange blockPointwiseSpec)

/-- ITS FALSE NEIGHBOUR: 'it returns false'. Refute it at one input. -/
def blockPointwiseWrong : ChangeSpec := { name := "blockPointwise", fn := fun _ => fun
  | [d1, d2, d3, d4, d5, d6, d7] => { results := [.lit (.bool false)], args := [d1, d2, d3, d4, d5, d6, d7] }
  | _ => none }
def BlockPointwiseWrongFalsely : Prop := blockPointwiseRow.holds Try.pinned (OpenSpec.ofChange blockPointwiseWrong)

/-- 'dialtonelaw13.BlockCanonical': WHATEVER THE INPUT: true; the input reads as it did. -/
def blockCanonicalSpec : ChangeSpec := { name := "blockCanonical", fn := fun _ => fun
  | [d1, d2, d3, d4] => { results := [.lit (.bool true)], args := [d1, d2, d3, d4] }
  | _ => none }
def blockCanonicalRow : OpenClaim := { program := "ytmgippddljmfjaa", sum := "92180fccc9346755ebf83dbe483df68866c9ca946cbda898496f6412f7ae2720", func := "dialtone/dialtonelaw13.BlockCanonical", spec := "blockCanonical", unfollowed := true, recurses := true, apart := false }
def BlockCanonicalSaid : Prop := blockCanonicalRow.holds Try.pinned (OpenSpec.ofChange blockCanonicalSpec)

/-- ITS FALSE NEIGHBOUR: 'it returns false'. Refute it at one input. -/
def blockCanonicalWrong : ChangeSpec := { name := "blockCanonical", fn := fun _ => fun
  | [d1, d2, d3, d4] => { results := [.lit (.bool false)], args := [d1, d2, d3, d4] }
  | _ => none }
def BlockCanonicalWrongFalsely : Prop := blockCanonicalRow.holds Try.pinned (OpenSpec.ofChange blockCanonicalWrong)

/-- 'dialtonelaw13.BlockOrder': WHATEVER THE INPUT: true; the input reads as it did. -/
def blockOrderSpec : ChangeSpec := { name := "blockOrder", fn := fun _ => fun
  | [d1, d2, d3, d4, d5] => { results := [.lit (.bool true)], args := [d1, d2, d3, d4, d5] }
  | _ => none }
def blockOrderRow : OpenClaim := { program := "ytmgippddljmfjaa", sum := "92180fccc9346755ebf83dbe483df68866c9ca946cbda898496f6412f7ae2720", func := "dialtone/dialtonelaw13.BlockOrder", spec := "blockOrder", unfollowed := true, recurses := true, apart := false }
def BlockOrderSaid : Prop := blockOrderRow.holds Try.pinned (OpenSpec.ofChange blockOrderSpec)

/-- ITS FALSE NEIGHBOUR: 'it returns false'. Refute it at one input. -/
def blockOrderWrong : ChangeSpec := { name := "blockOrder", fn := fun _ => fun
  | [d1, d2, d3, d4, d5] => { results := [.lit (.bool false)], args := [d1, d2, d3, d4, d5] }
  | _ => none }
def BlockOrderWrongFalsely : Prop := blockOrderRow.holds Try.pinned (OpenSpec.ofChange blockOrderWrong)

/-- 'dialtonelaw13.BlockOverlays': WHATEVER THE INPUT: true; the input reads as it did. -/
def blockOverlaysSpec : ChangeSpec := { name := "blockOverlays", fn := fun _ => fun
  | [d1, d2, d3, d4] => { results := [.lit (.bool true)], args := [d1, d2, d3, d4] }
  | _ => none }
def blockOverlaysRow : OpenClaim := { program := "ytmgippddljmfjaa", sum := "92180fccc9346755ebf83dbe483df68866c9ca946cbda898496f6412f7ae2720", func := "dialtone/dialtonelaw13.BlockOverlays", spec := "blockOverlays", unfollowed := true, recurses := true, apart := false }
def BlockOverlaysSaid : Prop := blockOverlaysRow.holds Try.pinned (OpenSpec.ofChange blockOverlaysSpec)

/-- ITS FALSE NEIGHBOUR: 'it returns false'. Refute it at one input. -/
def blockOverlaysWrong : ChangeSpec := { name := "blockOverlays", fn := fun _ => fun
  | [d1, d2, d3, d4] => { results := [.lit (.bool false)], args := [d1, d2, d3, d4] }
  | _ => none }
def BlockOverlaysWrongFalsely : Prop := blockOverlaysRow.holds Try.pinned (OpenSpec.ofChange blockOverlaysWrong)

/-- 'dialtonelaw13.BlockCounts': WHATEVER THE INPUT: true; the input reads as it did. -/
def blockCountsSpec : ChangeSpec := { name := "blockCounts", fn := fun _ => fun
  | [d1, d2, d3, d4] => { results := [.lit (.bool true)], args := [d1, d2, d3, d4] }
  | _ => none }
def blockCountsRow : OpenClaim := { program := "ytmgippddljmfjaa", sum := "92180fccc9346755ebf83dbe483df68866c9ca946cbda898496f6412f7ae2720", func := "dialtone/dialtonelaw13.BlockCounts", spec := "blockCounts", unfollowed := true, recurses := true, apart := false }
def BlockCountsSaid : Prop := blockCountsRow.holds Try.pinned (OpenSpec.ofChange blockCountsSpec)

/-- ITS FALSE NEIGHBOUR: 'it returns false'. Refute it at one input. -/
def blockCountsWrong : ChangeSpec := { name := "blockCounts", fn := fun _ => fun
  | [d1, d2, d3, d4] => { results := [.lit (.bool false)], args := [d1, d2, d3, d4] }
  | _ => none }
def BlockCountsWrongFalsely : Prop := blockCountsRow.holds Try.pinned (OpenSpec.ofChange blockCountsWrong)

/-- 'dialtonelaw13.BlockDiffers': WHATEVER THE INPUT: true; the input reads as it did. -/
def blockDiffersSpec : ChangeSpec := { name := "blockDiffers", fn := fun _ => fun
  | [d1, d2, d3, d4, d5] => { results := [.lit (.bool true)], args := [d1, d2, d3, d4, d5] }
  | _ => none }
def blockDiffersRow : OpenClaim := { program := "ytmgippddljmfjaa", sum := "92180fccc9346755ebf83dbe483df68866c9ca946cbda898496f6412f7ae2720", func := "dialtone/dialtonelaw13.BlockDiffers", spec := "blockDiffers", unfollowed := true, recurses := true, apart := false }
def BlockDiffersSaid : Prop := blockDiffersRow.holds Try.pinned (OpenSpec.ofChange blockDiffersSpec)

/-- ITS FALSE NEIGHBOUR: 'it returns false'. Refute it at one input. -/
def blockDiffersWrong : ChangeSpec := { name := "blockDiffers", fn := fun _ => fun
  | [d1, d2, d3, d4, d5] => { results := [.lit (.bool false)], args := [d1, d2, d3, d4, d5] }
  | _ => none }
def BlockDiffersWrongFalsely : Prop := blockDiffersRow.holds Try.pinned (OpenSpec.ofChange blockDiffersWrong)

/-- 'dialtonelaw13.BlockFree': WHATEVER THE INPUT: true; the input reads as it did. -/
def blockFreeSpec : ChangeSpec := { name := "blockFree", fn := fun _ => fun
  | [d1, d2, d3, d4, d5] => { results := [.lit (.bool true)], args := [d1, d2, d3, d4, d5] }
  | _ => none }
def blockFreeRow : OpenClaim := { program := "ytmgippddljmfjaa", sum := "92180fccc9346755ebf83dbe483df68866c9ca946cbda898496f6412f7ae2720", func := "dialtone/dialtonelaw13.BlockFree", spec := "blockFree", unfollowed := true, recurses := true, apart := false }
def BlockFreeSaid : Prop := blockFreeRow.holds Try.pinned (OpenSpec.ofChange blockFreeSpec)

/-- ITS FALSE NEIGHBOUR: 'it returns false'. Refute it at one input. -/
def blockFreeWrong : ChangeSpec := { name := "blockFree", fn := fun _ => fun
  | [d1, d2, d3, d4, d5] => { results := [.lit (.bool false)], args := [d1, d2, d3, d4, d5] }
  | _ => none }
def BlockFreeWrongFalsely : Prop := blockFreeRow.holds Try.pinned (OpenSpec.ofChange blockFreeWrong)

/- THE SECOND FORM. 'bulk': how many values and letters a reading holds, each counted each time it is reached (what is shared counts as often as it is met; a slice's spare places count too). A statement '..UptoSaid' is the law's where the arguments, and the package variables that the reading takes, are together of bulk at most 1048576: NARROWER than '..Said'. Prove '..Said' where nothing that the law and all that it calls make is longer than what came in: it says more and counts as full. Else prove '..UptoSaid'. A law counts once. -/
mutual
def uptoBulk {H : Type} : DataW H → Nat
  | .lit (.string bytes) => bytes.length + 1
  | .lit _ => 1
  | .nil => 1
  | .ptr d => uptoBulk d + 1
  | .slice elems spare => uptoBulkAll elems + uptoBulkAll spare + 1
  | .agg parts => uptoBulkAll parts + 1
  | .iface _ d => uptoBulk d + 1
  | .map entries => uptoBulkEntries entries + 1
  | .held _ => 1
def uptoBulkAll {H : Type} : List (DataW H) → Nat
  | [] => 0
  | d :: r => uptoBulk d + uptoBulkAll r
def uptoBulkEntries {H : Type} : List (Lit × DataW H) → Nat
  | [] => 0
  | x :: r => uptoBulkEntry x + uptoBulkEntries r
def uptoBulkEntry {H : Type} : Lit × DataW H → Nat
  | (.string bytes, d) => bytes.length + uptoBulk d + 1
  | (_, d) => uptoBulk d + 1
 end
def uptoSmall : (H : Type) → List (DataW H) → Bool := fun _ ds => decide (uptoBulkAll ds ≤ 1048576)
def OpenSpec.upto (s : _root_.Go.ChangeSpec) : _root_.Go.OpenSpec := { _root_.Go.OpenSpec.ofChange s with cond := some uptoSmall }

/-- 'dialtonelaw13.BlockMatchesReference', WHERE WHAT IT READS IS OF BULK AT MOST 1048576: true; the input reads as it did. -/
def blockMatchesReferenceUptoRow : OpenClaim := { program := "ytmgippddljmfjaa", sum := "92180fccc9346755ebf83dbe483df68866c9ca946cbda898496f6412f7ae2720", func := "dialtone/dialtonelaw13.BlockMatchesReference", spec := "blockMatchesReference", unfollowed := true, recurses := true, apart := false, narrowed := true }
def BlockMatchesReferenceUptoSaid : Prop := blockMatchesReferenceUptoRow.holds Try.pinned (OpenSpec.upto blockMatchesReferenceSpec)

/-- 'dialtonelaw13.BlockPointwise', WHERE WHAT IT READS IS OF BULK AT MOST 1048576: true; the input reads as it did. -/
def blockPointwiseUptoRow : OpenClaim := { program := "ytmgippddljmfjaa", sum := "92180fccc9346755ebf83dbe483df68866c9ca946cbda898496f6412f7ae2720", func := "dialtone/dialtonelaw13.BlockPointwise", spec := "blockPointwise", unfollowed := true, recurses := true, apart := false, narrowed := true }
def BlockPointwiseUptoSaid : Prop := blockPointwiseUptoRow.holds Try.pinned (OpenSpec.upto blockPointwiseSpec)

/-- 'dialtonelaw13.BlockCanonical', WHERE WHAT IT READS IS OF BULK AT MOST 1048576: true; the input reads as it did. -/
def blockCanonicalUptoRow : OpenClaim := { program := "ytmgippddljmfjaa", sum := "92180fccc9346755ebf83dbe483df68866c9ca946cbda898496f6412f7ae2720", func := "dialtone/dialtonelaw13.BlockCanonical", spec := "blockCanonical", unfollowed := true, recurses := true, apart := false, narrowed := true }
def BlockCanonicalUptoSaid : Prop := blockCanonicalUptoRow.holds Try.pinned (OpenSpec.upto blockCanonicalSpec)

/-- 'dialtonelaw13.BlockOrder', WHERE WHAT IT READS IS OF BULK AT MOST 1048576: true; the input reads as it did. -/
def blockOrderUptoRow : OpenClaim := { program := "ytmgippddljmfjaa", sum := "92180fccc9346755ebf83dbe483df68866c9ca946cbda898496f6412f7ae2720", func := "dialtone/dialtonelaw13.BlockOrder", spec := "blockOrder", unfollowed := true, recurses := true, apart := false, narrowed := true }
def BlockOrderUptoSaid : Prop := blockOrderUptoRow.holds Try.pinned (OpenSpec.upto blockOrderSpec)

/-- 'dialtonelaw13.BlockOverlays', WHERE WHAT IT READS IS OF BULK AT MOST 1048576: true; the input reads as it did. -/
def blockOverlaysUptoRow : OpenClaim := { program := "ytmgippddljmfjaa", sum := "92180fccc9346755ebf83dbe483df68866c9ca946cbda898496f6412f7ae2720", func := "dialtone/dialtonelaw13.BlockOverlays", spec := "blockOverlays", unfollowed := true, recurses := true, apart := false, narrowed := true }
def BlockOverlaysUptoSaid : Prop := blockOverlaysUptoRow.holds Try.pinned (OpenSpec.upto blockOverlaysSpec)

/-- 'dialtonelaw13.BlockCounts', WHERE WHAT IT READS IS OF BULK AT MOST 1048576: true; the input reads as it did. -/
def blockCountsUptoRow : OpenClaim := { program := "ytmgippddljmfjaa", sum := "92180fccc9346755ebf83dbe483df68866c9ca946cbda898496f6412f7ae2720", func := "dialtone/dialtonelaw13.BlockCounts", spec := "blockCounts", unfollowed := true, recurses := true, apart := false, narrowed := true }
def BlockCountsUptoSaid : Prop := blockCountsUptoRow.holds Try.pinned (OpenSpec.upto blockCountsSpec)

/-- 'dialtonelaw13.BlockDiffers', WHERE WHAT IT READS IS OF BULK AT MOST 1048576: true; the input reads as it did. -/
def blockDiffersUptoRow : OpenClaim := { program := "ytmgippddljmfjaa", sum := "92180fccc9346755ebf83dbe483df68866c9ca946cbda898496f6412f7ae2720", func := "dialtone/dialtonelaw13.BlockDiffers", spec := "blockDiffers", unfollowed := true, recurses := true, apart := false, narrowed := true }
def BlockDiffersUptoSaid : Prop := blockDiffersUptoRow.holds Try.pinned (OpenSpec.upto blockDiffersSpec)

/-- 'dialtonelaw13.BlockFree', WHERE WHAT IT READS IS OF BULK AT MOST 1048576: true; the input reads as it did. -/
def blockFreeUptoRow : OpenClaim := { program := "ytmgippddljmfjaa", sum := "92180fccc9346755ebf83dbe483df68866c9ca946cbda898496f6412f7ae2720", func := "dialtone/dialtonelaw13.BlockFree", spec := "blockFree", unfollowed := true, recurses := true, apart := false, narrowed := true }
def BlockFreeUptoSaid : Prop := blockFreeUptoRow.holds Try.pinned (OpenSpec.upto blockFreeSpec)

end Rows
end Go.Proofs.Ytmgippddljmfjaa
