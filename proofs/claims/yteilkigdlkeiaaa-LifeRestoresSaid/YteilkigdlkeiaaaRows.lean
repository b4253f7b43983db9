/-
  No cell of these rows narrows 'for every input' (looked for: loops, veiled, ifaces, maps, wideKeys, modest, calm, conditions, laid).
  DERIVED. THE GIVEN ROWS OF THIS SEAT. 10 by the template 'for every input the law returns true; each argument reads behind the call as it read before'; 0 by the template 'total and deterministic' (their statements: YteilkigdlkeiaaaTotals.lean).
  GIVEN WITH THE SEED: the statements are not yours to turn. If you find one false, say at which input.
  Laid BY PROGRAM, IN A SANDBOX (cutbox-rows.mjs): the forced cells as the released guide's own fill.sh prints them over the translation 051b380faf5f8783… (all of the seat's roots in one cut). By AI agents, Wed Nov 11 2026. No macro, syntax, notation, axiom, sorry.
-/
import Derived.Test.YteilkigdlkeiaaaChecked
import GoSem.Claim
import GoSem.ClaimJoined
import GoSem.ClaimMapViews
import Derived.JoinedTies
import Derived.KernelRfl
namespace Go.Proofs.Yteilkigdlkeiaaa
/- THE CELL 'sum', in the pinned program and in every row, IS THE sha256 OF THE DUMP (.gsa) THAT YteilkigdlkeiaaaProg.lean LOADS. Nothing in Lean hashes anything: it is a label: what it is worth is what the hold of that sum in a sandbox is worth. -/
noncomputable def Try.pinned : Pinned := { name := "yteilkigdlkeiaaa", sum := "051b380faf5f8783dbff5478a14406495f87684a5f7821776babf386cfa4125a", checked := Try.checked }
namespace Rows
def none {H : Type} : Left H := { results := [], args := [] }

/-- 'dialtonelaw14.LifeMatchesReference': WHATEVER THE INPUT: true; the input reads as it did. -/
def lifeMatchesReferenceSpec : ChangeSpec := { name := "lifeMatchesReference", fn := fun _ => fun
  | [d1, d2, d3, d4, d5, d6] => { results := [.lit (.bool true)], args := [d1, d2, d3, d4, d5, d6] }
  | _ => none }
def lifeMatchesReferenceRow : OpenClaim := { program := "yteilkigdlkeiaaa", sum := "051b380faf5f8783dbff5478a14406495f87684a5f7821776babf386cfa4125a", func := "dialtone/dialtonelaw14.LifeMatchesReference", spec := "lifeMatchesReference", unfollowed := true, recurses := true, apart := false }
def LifeMatchesReferenceSaid : Prop := lifeMatchesReferenceRow.holds Try.pinned (OpenSpec.ofChange lifeMatchesReferenceSpec)

/-- ITS FALSE NEIGHBOUR: 'it returns false'. Refute it at one input. -/
def lifeMatchesReferenceWrong : ChangeSpec := { name := "lifeMatchesReference", fn := fun _ => fun
  | [d1, d2, d3, d4, d5, d6] => { results := [.lit (.bool false)], args := [d1, d2, d3, d4, d5, d6] }
  | _ => none }
def LifeMatchesReferenceWrongFalsely : Prop := lifeMatchesReferenceRow.holds Try.pinned (OpenSpec.ofChange lifeMatchesReferenceWrong)

/-- 'dialtonelaw14.LifeOne': WHATEVER THE INPUT: true; the input reads as it did. -/
def lifeOneSpec : ChangeSpec := { name := "lifeOne", fn := fun _ => fun
  | [d1, d2, d3] => { results := [.lit (.bool true)], args := [d1, d2, d3] }
  | _ => none }
def lifeOneRow : OpenClaim := { program := "yteilkigdlkeiaaa", sum := "051b380faf5f8783dbff5478a14406495f87684a5f7821776babf386cfa4125a", func := "dialtone/dialtonelaw14.LifeOne", spec := "lifeOne", unfollowed := true, recurses := true, apart := false }
def LifeOneSaid : Prop := lifeOneRow.holds Try.pinned (OpenSpec.ofChange lifeOneSpec)

/-- ITS FALSE NEIGHBOUR: 'it returns false'. Refute it at one input. -/
def lifeOneWrong : ChangeSpec := { name := "lifeOne", fn := fun _ => fun
  | [d1, d2, d3] => { results := [.lit (.bool false)], args := [d1, d2, d3] }
  | _ => none }
def LifeOneWrongFalsely : Prop := lifeOneRow.holds Try.pinned (OpenSpec.ofChange lifeOneWrong)

/-- 'dialtonelaw14.LifeMail': WHATEVER THE INPUT: true; the input reads as it did. -/
def lifeMailSpec : ChangeSpec := { name := "lifeMail", fn := fun _ => fun
  | [d1, d2, d3, d4] => { results := [.lit (.bool true)], args := [d1, d2, d3, d4] }
  | _ => none }
def lifeMailRow : OpenClaim := { program := "yteilkigdlkeiaaa", sum := "051b380faf5f8783dbff5478a14406495f87684a5f7821776babf386cfa4125a", func := "dialtone/dialtonelaw14.LifeMail", spec := "lifeMail", unfollowed := true, recurses := true, apart := false }
def LifeMailSaid : Prop := lifeMailRow.holds Try.pinned (OpenSpec.ofChange lifeMailSpec)

/-- ITS FALSE NEIGHBOUR: 'it returns false'. Refute it at one input. -/
def lifeMailWrong : ChangeSpec := { name := "lifeMail", fn := fun _ => fun
  | [d1, d2, d3, d4] => { results := [.lit (.bool false)], args := [d1, d2, d3, d4] }
  | _ => none }
def LifeMailWrongFalsely : Prop := lifeMailRow.holds Try.pinned (OpenSpec.ofChange lifeMailWrong)

/-- 'dialtonelaw14.LifeQuarantine': WHATEVER THE INPUT: true; the input reads as it did. -/
def lifeQuarantineSpec : ChangeSpec := { name := "lifeQuarantine", fn := fun _ => fun
  | [d] => { results := [.lit (.bool true)], args := [d] }
  | _ => none }
def lifeQuarantineRow : OpenClaim := { program := "yteilkigdlkeiaaa", sum := "051b380faf5f8783dbff5478a14406495f87684a5f7821776babf386cfa4125a", func := "dialtone/dialtonelaw14.LifeQuarantine", spec := "lifeQuarantine", unfollowed := true, recurses := true, apart := false }
def LifeQuarantineSaid : Prop := lifeQuarantineRow.holds Try.pinned (OpenSpec.ofChange lifeQuarantineSpec)

/-- ITS FALSE NEIGHBOUR: 'it returns false'. Refute it at one input. -/
def lifeQuarantineWrong : ChangeSpec := { name := "lifeQuarantine", fn := fun _ => fun
  | [d] => { results := [.lit (.bool false)], args := [d] }
  | _ => none }
def LifeQuarantineWrongFalsely : Prop := lifeQuarantineRow.holds Try.pinned (OpenSpec.ofChange lifeQuarantineWrong)

/-- 'dialtonelaw14.LifeEpochs': WHATEVER THE INPUT: true; the input reads as it did. -/
def lifeEpochsSpec : ChangeSpec := { name := "lifeEpochs", fn := fun _ => fun
  | [d] => { results := [.lit (.bool true)], args := [d] }
  | _ => none }
def lifeEpochsRow : OpenClaim := { program := "yteilkigdlkeiaaa", sum := "051b380faf5f8783dbff5478a14406495f87684a5f7821776babf386cfa4125a", func := "dialtone/dialtonelaw14.LifeEpochs", spec := "lifeEpochs", unfollowed := true, recurses := true, apart := false }
def LifeEpochsSaid : Prop := lifeEpochsRow.holds Try.pinned (OpenSpec.ofChange lifeEpochsSpec)

/-- ITS FALSE NEIGHBOUR: 'it returns false'. Refute it at one input. -/
def lifeEpochsWrong : ChangeSpec := { name := "lifeEpochs", fn := fun _ => fun
  | [d] => { results := [.lit (.bool false)], args := [d] }
  | _ => none }
def LifeEpochsWrongFalsely : Prop := lifeEpochsRow.holds Try.pinned (OpenSpec.ofChange lifeEpochsWrong)

/-- 'dialtonelaw14.LifeStays': WHATEVER THE INPUT: true; the input reads as it did. -/
def lifeStaysSpec : ChangeSpec := { name := "lifeStays", fn := fun _ => fun
  | [d1, d2] => { results := [.lit (.bool true)], args := [d1, d2] }
  | _ => none }
def lifeStaysRow : OpenClaim := { program := "yteilkigdlkeiaaa", sum := "051b380faf5f8783dbff5478a14406495f87684a5f7821776babf386cfa4125a", func := "dialtone/dialtonelaw14.LifeStays", spec := "lifeStays", unfollowed := true, recurses := true, apart := false }
def LifeStaysSaid : Prop := lifeStaysRow.holds Try.pinned (OpenSpec.ofChange lifeStaysSpec)

/-- ITS FALSE NEIGHBOUR: 'it returns false'. Refute it at one input. -/
def lifeStaysWrong : ChangeSpec := { name := "lifeStays", fn := fun _ => fun
  | [d1, d2] => { results := [.lit (.bool false)], args := [d1, d2] }
  | _ => none }
def LifeStaysWrongFalsely : Prop := lifeStaysRow.holds Try.pinned (OpenSpec.ofChange lifeStaysWrong)

/-- 'dialtonelaw14.LifeParts': WHATEVER THE INPUT: true; the input reads as it did. -/
def lifePartsSpec : ChangeSpec := { name := "lifeParts", fn := fun _ => fun
  | [d1, d2, d3] => { results := [.lit (.bool true)], args := [d1, d2, d3] }
  | _ => none }
def lifePartsRow : OpenClaim := { program := "yteilkigdlkeiaaa", sum := "051b380faf5f8783dbff5478a14406495f87684a5f7821776babf386cfa4125a", func := "dialtone/dialtonelaw14.LifeParts", spec := "lifeParts", unfollowed := true, recurses := true, apart := false }
def LifePartsSaid : Prop := lifePartsRow.holds Try.pinned (OpenSpec.ofChange lifePartsSpec)

/-- ITS FALSE NEIGHBOUR: 'it returns false'. Refute it at one input. -/
def lifePartsWrong : ChangeSpec := { name := "lifeParts", fn := fun _ => fun
  | [d1, d2, d3] => { results := [.lit (.bool false)], args := [d1, d2, d3] }
  | _ => none }
def LifePartsWrongFalsely : Prop := lifePartsRow.holds Try.pinned (OpenSpec.ofChange lifePartsWrong)

/-- 'dialtonelaw14.LifeRestores': WHATEVER THE INPUT: true; the input reads as it did. -/
def lifeRestoresSpec : ChangeSpec := { name := "lifeRestores", fn := fun _ => fun
  | [d1, d2, d3, d4] => { results := [.lit (.bool true)], args := [d1, d2, d3, d4] }
  | _ => none }
def lifeRestoresRow : OpenClaim := { program := "yteilkigdlkeiaaa", sum := "051b380faf5f8783dbff5478a14406495f87684a5f7821776babf386cfa4125a", func := "dialtone/dialtonelaw14.LifeRestores", spec := "lifeRestores", unfollowed := true, recurses := true, apart := false }
def LifeRestoresSaid : Prop := lifeRestoresRow.holds Try.pinned (OpenSpec.ofChange lifeRestoresSpec)

/-- ITS FALSE NEIGHBOUR: 'it returns false'. Refute it at one input. -/
def lifeRestoresWrong : ChangeSpec := { name := "lifeRestores", fn := fun _ => fun
  | [d1, d2, d3, d4] => { results := [.lit (.bool false)], args := [d1, d2, d3, d4] }
  | _ => none }
def LifeRestoresWrongFalsely : Prop := lifeRestoresRow.holds Try.pinned (OpenSpec.ofChange lifeRestoresWrong)

/-- 'dialtonelaw14.LifeMoves': WHATEVER THE INPUT: true; the input reads as it did. -/
def lifeMovesSpec : ChangeSpec := { name := "lifeMoves", fn := fun _ => fun
  | [d1, d2, d3] => { results := [.lit (.bool true)], args := [d1, d2, d3] }
  | _ => none }
def lifeMovesRow : OpenClaim := { program := "yteilkigdlkeiaaa", sum := "051b380faf5f8783dbff5478a14406495f87684a5f7821776babf386cfa4125a", func := "dialtone/dialtonelaw14.LifeMoves", spec := "lifeMoves", unfollowed := true, recurses := true, apart := false }
def LifeMovesSaid : Prop := lifeMovesRow.holds Try.pinned (OpenSpec.ofChange lifeMovesSpec)

/-- ITS FALSE NEIGHBOUR: 'it returns false'. Refute it at one input. -/
def lifeMovesWrong : ChangeSpec := { name := "lifeMoves", fn := fun _ => fun
  | [d1, d2, d3] => { results := [.lit (.bool false)], args := [d1, d2, d3] }
  | _ => none }
def LifeMovesWrongFalsely : Prop := lifeMovesRow.holds Try.pinned (OpenSpec.ofChange lifeMovesWrong)

/-- 'dialtonelaw14.LifeDecodes': WHATEVER THE INPUT: true; the input reads as it did. -/
def lifeDecodesSpec : ChangeSpec := { name := "lifeDecodes", fn := fun _ => fun
  | [d1, d2, d3, d4, d5, d6] => { results := [.lit (.bool true)], args := [d1, d2, d3, d4, d5, d6] }
  | _ => none }
def lifeDecodesRow : OpenClaim := { program := "yteilkigdlkeiaaa", sum := "051b380faf5f8783dbff5478a14406495f87684a5f7821776babf386cfa4125a", func := "dialtone/dialtonelaw14.LifeDecodes", spec := "lifeDecodes", unfollowed := true, recurses := true, apart := false }
def LifeDecodesSaid : Prop := lifeDecodesRow.holds Try.pinned (OpenSpec.ofChange lifeDecodesSpec)

/-- ITS FALSE NEIGHBOUR: 'it returns false'. Refute it at one input. -/
def lifeDecodesWrong : ChangeSpec := { name := "lifeDecodes", fn := fun _ => fun
  | [d1, d2, d3, d4, d5, d6] => { results := [.lit (.bool false)], args := [d1, d2, d3, d4, d5, d6] }
  | _ => none }
def LifeDecodesWrongFalsely : Prop := lifeDecodesRow.holds Try.pinned (OpenSpec.ofChange lifeDecodesWrong)

/- THE SECOND FORM. 'bulk': how many values and letters a reading holds, each counted each time it is reached (what is shared counts as often as it is met; a slice's spare places count too). A statement '..UptoSaid' is the law's where the arguments, and the package variables that the reading takes, are together of bulk at most 1048576: NARROWER than '..Said'. Prove '..Said' where nothing that the law and all that it calls make is longer than what came in: it says more and counts as full. Else prove '..UptoSaid'. A law counts once. -/
mutual
def uptoBulk {H : Type} : DataW H → Nat
  | .lit (.string bytes) => bytes.length + 1
  | .lit _ => 1
  | .nil => 1
  | .ptr d => uptoBulk d + 1
  | .slice elems spare => uptoBulkAll elems + uptoBulkAll spare + 1
  | .agg parts => uptoBulkAll parts + 1
  | .iface _ d => uptoBulk d + 1
  | .map entries => uptoBulkEntries entries + 1
  | .held _ => 1
def uptoBulkAll {H : Type} : List (DataW H) → Nat
  | [] => 0
  | d :: r => uptoBulk d + uptoBulkAll r
def uptoBulkEntries {H : Type} : List (Lit × DataW H) → Nat
  | [] => 0
  | x :: r => uptoBulkEntry x + uptoBulkEntries r
def uptoBulkEntry {H : Type} : Lit × DataW H → Nat
  | (.string bytes, d) => bytes.length + uptoBulk d + 1
  | (_, d) => uptoBulk d + 1
 end
def uptoSmall : (H : Type) → List (DataW H) → Bool := fun _ ds => decide (uptoBulkAll ds ≤ 1048576)
def OpenSpec.upto (s : _root_.Go.ChangeSpec) : _root_.Go.OpenSpec := { _root_.Go.OpenSpec.ofChange s with cond := some uptoSmall }

/-- 'dialtonelaw14.LifeMatchesReference', WHERE WHAT IT READS IS OF BULK AT MOST 1048576: true; the input reads as it did. -/
def lifeMatchesReferenceUptoRow : OpenClaim := { program := "yteilkigdlkeiaaa", sum := "051b380faf5f8783dbff5478a14406495f87684a5f7821776babf386cfa4125a", func := "dialtone/dialtonelaw14.LifeMatchesReference", spec := "lifeMatchesReference", unfollowed := true, recurses := true, apart := false, narrowed := true }
def LifeMatchesReferenceUptoSaid : Prop := lifeMatchesReferenceUptoRow.holds Try.pinned (OpenSpec.upto lifeMatchesReferenceSpec)

/-- 'dialtonelaw14.LifeOne', WHERE WHAT IT READS IS OF BULK AT MOST 1048576: true; the input reads as it did. -/
def lifeOneUptoRow : OpenClaim := { program := "yteilkigdlkeiaaa", sum := "051b380faf5f8783dbff5478a14406495f87684a5f7821776babf386cfa4125a", func := "dialtone/dialtonelaw14.LifeOne", spec := "lifeOne", unfollowed := true, recurses := true, apart := false, narrowed := true }
def LifeOneUptoSaid : Prop := lifeOneUptoRow.holds Try.pinned (OpenSpec.upto lifeOneSpec)

/-- 'dialtonelaw14.LifeMail', WHERE WHAT IT READS IS OF BULK AT MOST 1048576: true; the input reads as it did. -/
def lifeMailUptoRow : OpenClaim := { program := "yteilkigdlkeiaaa", sum := "051b380faf5f8783dbff5478a14406495f87684a5f7821776babf386cfa4125a", func := "dialtone/dialtonelaw14.LifeMail", spec := "lifeMail", unfollowed := true, recurses := true, apart := false, narrowed := true }
def LifeMailUptoSaid : Prop := lifeMailUptoRow.holds Try.pinned (OpenSpec.upto lifeMailSpec)

/-- 'dialtonelaw14.LifeQuarantine', WHERE WHAT IT READS IS OF BULK AT MOST 1048576: true; the input reads as it did. -/
def lifeQuarantineUptoRow : OpenClaim := { program := "yteilkigdlkeiaaa", sum := "051b380faf5f8783dbff5478a14406495f87684a5f7821776babf386cfa4125a", func := "dialtone/dialtonelaw14.LifeQuarantine", spec := "lifeQuarantine", unfollowed := true, recurses := true, apart := false, narrowed := true }
def LifeQuarantineUptoSaid : Prop := lifeQuarantineUptoRow.holds Try.pinned (OpenSpec.upto lifeQuarantineSpec)

/-- 'dialtonelaw14.LifeEpochs', WHERE WHAT IT READS IS OF BULK AT MOST 1048576: true; the input reads as it did. -/
def lifeEpochsUptoRow : OpenClaim := { program := "yteilkigdlkeiaaa", sum := "051b380faf5f8783dbff5478a14406495f87684a5f7821776babf386cfa4125a", func := "dialtone/dialtonelaw14.LifeEpochs", spec := "lifeEpochs", unfollowed := true, recurses := true, apart := false, narrowed := true }
def LifeEpochsUptoSaid : Prop := lifeEpochsUptoRow.holds Try.pinned (OpenSpec.upto lifeEpochsSpec)

/-- 'dialtonelaw14.LifeStays', WHERE WHAT IT READS IS OF BULK AT MOST 1048576: true; the input reads as it did. -/
def lifeStaysUptoRow : OpenClaim := { program := "yteilkigdlkeiaaa", sum := "051b380faf5f8783dbff5478a14406495f87684a5f7821776babf386cfa4125a", func := "dialtone/dialtonelaw14.LifeStays", spec := "lifeStays", unfollowed := true, recurses := true, apart := false, narrowed := true }
def LifeStaysUptoSaid : Prop := lifeStaysUptoRow.holds Try.pinned (OpenSpec.upto lifeStaysSpec)

/-- 'dialtonelaw14.LifeParts', WHERE WHAT IT READS IS OF BULK AT MOST 1048576: true; the input reads as it did. -/
def lifePartsUptoRow : OpenClaim := { program := "yteilkigdlkeiaaa", sum := "051b380faf5f8783dbff5478a14406495f87684a5f7821776babf386cfa4125a", func := "dialtone/dialtonelaw14.LifeParts", spec := "lifeParts", unfollowed := true, recurses := true, apart := false, narrowed := true }
def LifePartsUptoSaid : Prop := lifePartsUptoRow.holds Try.pinned (OpenSpec.upto lifePartsSpec)

/-- 'dialtonelaw14.LifeRestores', WHERE WHAT IT READS IS OF BULK AT MOST 1048576: true; the input reads as it did. -/
def lifeRestoresUptoRow : OpenClaim := { program := "yteilkigdlkeiaaa", sum := "051b380faf5f8783dbff5478a14406495f87684a5f7821776babf386cfa4125a", func := "dialtone/dialtonelaw14.LifeRestores", spec := "lifeRestores", unfollowed := true, recurses := true, apart := false, narrowed := true }
def LifeRestoresUptoSaid : Prop := lifeRestoresUptoRow.holds Try.pinned (OpenSpec.upto lifeRestoresSpec)

/-- 'dialtonelaw14.LifeMoves', WHERE WHAT IT READS IS OF BULK AT MOST 1048576: true; the input reads as it did. -/
def lifeMovesUptoRow : OpenClaim := { program := "yteilkigdlkeiaaa", sum := "051b380faf5f8783dbff5478a14406495f87684a5f7821776babf386cfa4125a", func := "dialtone/dialtonelaw14.LifeMoves", spec := "lifeMoves", unfollowed := true, recurses := true, apart := false, narrowed := true }
def LifeMovesUptoSaid : Prop := lifeMovesUptoRow.holds Try.pinned (OpenSpec.upto lifeMovesSpec)

/-- 'dialtonelaw14.LifeDecodes', WHERE WHAT IT READS IS OF BULK AT MOST 1048576: true; the input reads as it did. -/
def lifeDecodesUptoRow : OpenClaim := { program := "yteilkigdlkeiaaa", sum := "051b380faf5f8783dbff5478a14406495f87684a5f7821776babf386cfa4125a", func := "dialtone/dialtonelaw14.LifeDecodes", spec := "lifeDecodes", unfollowed := true, recurses := true, apart := false, narrowed := true }
def LifeDecodesUptoSaid : Prop := lifeDecodesUptoRow.holds Try.pinned (OpenSpec.upto lifeDecodesSpec)

end Rows
end Go.Proofs.Yteilkigdlkeiaaa
