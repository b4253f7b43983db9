/-
  No cell of these rows narrows 'for every input' (looked for: loops, veiled, ifaces, maps, wideKeys, modest, calm, conditions, laid).
  DERIVED. THE GIVEN ROWS OF THIS SEAT. 8 by the template 'for every input the law returns true; each argument reads behind the call as it read before'; 0 by the template 'total and deterministic' (their statements: YtgckmifmjiklmaaGreatTotals.lean).
  GIVEN WITH THE SEED: the statements are not yours to turn. If you find one false, say at which input.
  Laid BY PROGRAM, IN A SANDBOX (cutbox-rows.mjs): the forced cells as the released guide's own fill.sh prints them over the translation 9ab51caaca183f7a… (all of the seat's roots in one cut). By AI agents, Wed Nov 11 2026. No macro, syntax, notation, axiom, sorry.
-/
import Derived.Test.YtgckmifmjiklmaaGreatChecked
import GoSem.Claim
import GoSem.ClaimJoined
import GoSem.ClaimMapViews
import Derived.JoinedTies
import Derived.KernelRfl
namespace Go.Proofs.YtgckmifmjiklmaaGreat
/- THE CELL 'sum', in the pinned program and in every row, IS THE sha256 OF THE DUMP (.gsa) THAT YtgckmifmjiklmaaGreatProg.lean LOADS. Nothing in Lean hashes anything: it is a label: what it is worth is what the hold of that sum in a sandbox is worth. -/
noncomputable def Tryz.pinned : Pinned := { name := "ytgckmifmjiklmaagreat", sum := "9ab51caaca183f7aa5d8d77a3533005bdabf6ed46407260e6b2a83f7aca39a9f", checked := Tryz.checked }
namespace Rows
def none {H : Type} : Left H := { results := [], args := [] }

/-- 'dialtonelaw42.MergeMatchesReference': WHATEVER THE INPUT: true; the input reads as it did. -/
def mergeMatchesReferenceSpec : ChangeSpec := { name := "mergeMatchesReference", fn := fun _ => fun
  | [d1, d2, d3, d4, d5, d6, d7, d8, d9] => { results := [.lit (.bool true)], args := [d1, d2, d3, d4, d5, d6, d7, d8, d9] }
  | _ => none }
def mergeMatchesReferenceRow : OpenClaim := { program := "ytgckmifmjiklmaagreat", sum := "9ab51caaca183f7aa5d8d77a3533005bdabf6ed46407260e6b2a83f7aca39a9f", func := "dialtone/dialtonelaw42.MergeMatchesReference", spec := "mergeMatchesReference", unfollowed := true, recurses := true, plainKeys := false, apart := false }
def MergeMatchesReferenceSaid : Prop := mergeMatchesReferenceRow.holds Tryz.pinned (OpenSpec.ofChange mergeMatchesReferenceSpec)

/-- ITS FALSE NEIGHBOUR: 'it returns false'. Refute it at one input. -/
def mergeMatchesReferenceWrong : ChangeSpec := { name := "mergeMatchesReference", fn := fun _ => fun
  | [d1, d2, d3, d4, d5, d6, d7, d8, d9] => { results := [.lit (.bool false)], args := [d1, d2, d3, d4, d5, d6, d7, d8, d9] }
  | _ => none }
def MergeMatchesReferenceWrongFalsely : Prop := mergeMatchesReferenceRow.holds Tryz.pinned (OpenSpec.ofChange mergeMatchesReferenceWrong)

/-- 'dialtonelaw42.MergeSuccessions': WHATEVER THE INPUT: true; the input reads as it did. -/
def mergeSuccessionsSpec : ChangeSpec := { name := "mergeSuccessions", fn := fun _ => fun
  | [d1, d2, d3, d4, d5, d6, d7] => { results := [.lit (.bool true)], args := [d1, d2, d3, d4, d5, d6, d7] }
  | _ => none }
def mergeSuccessionsRow : OpenClaim := { program := "ytgckmifmjiklmaagreat", sum := "9ab51caaca183f7aa5d8d77a3533005bdabf6ed46407260e6b2a83f7aca39a9f", func := "dialtone/dialtonelaw42.MergeSuccessions", spec := "mergeSuccessions", unfollowed := true, recurses := true, plainKeys := false, apart := false }
def MergeSuccessionsSaid : Prop := mergeSuccessionsRow.holds Tryz.pinned (OpenSpec.ofChange mergeSuccessionsSpec)

/-- ITS FALSE NEIGHBOUR: 'it returns false'. Refute it at one input. -/
def mergeSuccessionsWrong : ChangeSpec := { name := "mergeSuccessions", fn := fun _ => fun
  | [d1, d2, d3, d4, d5, d6, d7] => { results := [.lit (.bool false)], args := [d1, d2, d3, d4, d5, d6, d7] }
  | _ => none }
def MergeSuccessionsWrongFalsely : Prop := mergeSuccessionsRow.holds Tryz.pinned (OpenSpec.ofChange mergeSuccessionsWrong)

/-- 'dialtonelaw42.MergeLevels': WHATEVER THE INPUT: true; the input reads as it did. -/
def mergeLevelsSpec : ChangeSpec := { name := "mergeLevels", fn := fun _ => fun
  | [d1, d2, d3, d4, d5, d6] => { results := [.lit (.bool true)], args := [d1, d2, d3, d4, d5, d6] }
  | _ => none }
def mergeLevelsRow : OpenClaim := { program := "ytgckmifmjiklmaagreat", sum := "9ab51caaca183f7aa5d8d77a3533005bdabf6ed46407260e6b2a83f7aca39a9f", func := "dialtone/dialtonelaw42.MergeLevels", spec := "mergeLevels", unfollowed := true, recurses := true, plainKeys := false, apart := false }
def MergeLevelsSaid : Prop := mergeLevelsRow.holds Tryz.pinned (OpenSpec.ofChange mergeLevelsSpec)

/-- ITS FALSE NEIGHBOUR: 'it returns false'. Refute it at one input. -/
def mergeLevelsWrong : ChangeSpec := { name := "mergeLevels", fn := fun _ => fun
  | [d1, d2, d3, d4, d5, d6] => { results := [.lit (.bool false)], args := [d1, d2, d3, d4, d5, d6] }
  | _ => none }
def MergeLevelsWrongFalsely : Prop := mergeLevelsRow.holds Tryz.pinned (OpenSpec.ofChange mergeLevelsWrong)

/-- 'dialtonelaw42.MergeMoney': WHATEVER THE INPUT: true; the input reads as it did. -/
def mergeMoneySpec : ChangeSpec := { name := "mergeMoney", fn := fun _ => fun
  | [d1, d2, d3, d4] => { results := [.lit (.bool true)], args := [d1, d2, d3, d4] }
  | _ => none }
def mergeMoneyRow : OpenClaim := { program := "ytgckmifmjiklmaagreat", sum := "9ab51caaca183f7aa5d8d77a3533005bdabf6ed46407260e6b2a83f7aca39a9f", func := "dialtone/dialtonelaw42.MergeMoney", spec := "mergeMoney", unfollowed := true, recurses := true, plainKeys := false, apart := false }
def MergeMoneySaid : Prop := mergeMoneyRow.holds Tryz.pinned (OpenSpec.ofChange mergeMoneySpec)

/-- ITS FALSE NEIGHBOUR: 'it returns false'. Refute it at one input. -/
def mergeMoneyWrong : ChangeSpec := { name := "mergeMoney", fn := fun _ => fun
  | [d1, d2, d3, d4] => { results := [.lit (.bool false)], args := [d1, d2, d3, d4] }
  | _ => none }
def MergeMoneyWrongFalsely : Prop := mergeMoneyRow.holds Tryz.pinned (OpenSpec.ofChange mergeMoneyWrong)

/-- 'dialtonelaw42.MergeNumbers': WHATEVER THE INPUT: true; the input reads as it did. -/
def mergeNumbersSpec : ChangeSpec := { name := "mergeNumbers", fn := fun _ => fun
  | [d1, d2, d3, d4, d5, d6] => { results := [.lit (.bool true)], args := [d1, d2, d3, d4, d5, d6] }
  | _ => none }
def mergeNumbersRow : OpenClaim := { program := "ytgckmifmjiklmaagreat", sum := "9ab51caaca183f7aa5d8d77a3533005bdabf6ed46407260e6b2a83f7aca39a9f", func := "dialtone/dialtonelaw42.MergeNumbers", spec := "mergeNumbers", unfollowed := true, recurses := true, plainKeys := false, apart := false }
def MergeNumbersSaid : Prop := mergeNumbersRow.holds Tryz.pinned (OpenSpec.ofChange mergeNumbersSpec)

/-- ITS FALSE NEIGHBOUR: 'it returns false'. Refute it at one input. -/
def mergeNumbersWrong : ChangeSpec := { name := "mergeNumbers", fn := fun _ => fun
  | [d1, d2, d3, d4, d5, d6] => { results := [.lit (.bool false)], args := [d1, d2, d3, d4, d5, d6] }
  | _ => none }
def MergeNumbersWrongFalsely : Prop := mergeNumbersRow.holds Tryz.pinned (OpenSpec.ofChange mergeNumbersWrong)

/-- 'dialtonelaw42.MergeClaims': WHATEVER THE INPUT: true; the input reads as it did. -/
def mergeClaimsSpec : ChangeSpec := { name := "mergeClaims", fn := fun _ => fun
  | [d1, d2, d3, d4, d5, d6, d7] => { results := [.lit (.bool true)], args := [d1, d2, d3, d4, d5, d6, d7] }
  | _ => none }
def mergeClaimsRow : OpenClaim := { program := "ytgckmifmjiklmaagreat", sum := "9ab51caaca183f7aa5d8d77a3533005bdabf6ed46407260e6b2a83f7aca39a9f", func := "dialtone/dialtonelaw42.MergeClaims", spec := "mergeClaims", unfollowed := true, recurses := true, plainKeys := false, apart := false }
def MergeClaimsSaid : Prop := mergeClaimsRow.holds Tryz.pinned (OpenSpec.ofChange mergeClaimsSpec)

/-- ITS FALSE NEIGHBOUR: 'it returns false'. Refute it at one input. -/
def mergeClaimsWrong : ChangeSpec := { name := "mergeClaims", fn := fun _ => fun
  | [d1, d2, d3, d4, d5, d6, d7] => { results := [.lit (.bool false)], args := [d1, d2, d3, d4, d5, d6, d7] }
  | _ => none }
def MergeClaimsWrongFalsely : Prop := mergeClaimsRow.holds Tryz.pinned (OpenSpec.ofChange mergeClaimsWrong)

/-- 'dialtonelaw42.MergeGoesMatchReference': WHATEVER THE INPUT: true; the input reads as it did. -/
def mergeGoesMatchReferenceSpec : ChangeSpec := { name := "mergeGoesMatchReference", fn := fun _ => fun
  | [d1, d2, d3, d4, d5, d6, d7, d8, d9, d10] => { results := [.lit (.bool true)], args := [d1, d2, d3, d4, d5, d6, d7, d8, d9, d10] }
  | _ => none }
def mergeGoesMatchReferenceRow : OpenClaim := { program := "ytgckmifmjiklmaagreat", sum := "9ab51caaca183f7aa5d8d77a3533005bdabf6ed46407260e6b2a83f7aca39a9f", func := "dialtone/dialtonelaw42.MergeGoesMatchReference", spec := "mergeGoesMatchReference", unfollowed := true, recurses := true, plainKeys := false, apart := false }
def MergeGoesMatchReferenceSaid : Prop := mergeGoesMatchReferenceRow.holds Tryz.pinned (OpenSpec.ofChange mergeGoesMatchReferenceSpec)

/-- ITS FALSE NEIGHBOUR: 'it returns false'. Refute it at one input. -/
def mergeGoesMatchReferenceWrong : ChangeSpec := { name := "mergeGoesMatchReference", fn := fun _ => fun
  | [d1, d2, d3, d4, d5, d6, d7, d8, d9, d10] => { results := [.lit (.bool false)], args := [d1, d2, d3, d4, d5, d6, d7, d8, d9, d10] }
  | _ => none }
def MergeGoesMatchReferenceWrongFalsely : Prop := mergeGoesMatchReferenceRow.holds Tryz.pinned (OpenSpec.ofChange mergeGoesMatchReferenceWrong)

/-- 'dialtonelaw42.MergeChains': WHATEVER THE INPUT: true; the input reads as it did. -/
def mergeChainsSpec : ChangeSpec := { name := "mergeChains", fn := fun _ => fun
  | [d1, d2, d3, d4, d5, d6] => { results := [.lit (.bool true)], args := [d1, d2, d3, d4, d5, d6] }
  | _ => none }
def mergeChainsRow : OpenClaim := { program := "ytgckmifmjiklmaagreat", sum := "9ab51caaca183f7aa5d8d77a3533005bdabf6ed46407260e6b2a83f7aca39a9f", func := "dialtone/dialtonelaw42.MergeChains", spec := "mergeChains", unfollowed := true, recurses := true, plainKeys := false, apart := false }
def MergeChainsSaid : Prop := mergeChainsRow.holds Tryz.pinned (OpenSpec.ofChange mergeChainsSpec)

/-- ITS FALSE NEIGHBOUR: 'it returns false'. Refute it at one input. -/
def mergeChainsWrong : ChangeSpec := { name := "mergeChains", fn := fun _ => fun
  | [d1, d2, d3, d4, d5, d6] => { results := [.lit (.bool false)], args := [d1, d2, d3, d4, d5, d6] }
  | _ => none }
def MergeChainsWrongFalsely : Prop := mergeChainsRow.holds Tryz.pinned (OpenSpec.ofChange mergeChainsWrong)

/- THE SECOND FORM. 'bulk': how many values and letters a reading holds, each counted each time it is reached (what is shared counts as often as it is met; a slice's spare places count too). A statement '..UptoSaid' is the law's where the arguments, and the package variables that the reading takes, are together of bulk at most 1048576: NARROWER than '..Said'. Prove '..Said' where nothing that the law and all that it calls make is longer than what came in: it says more and counts as full. Else prove '..UptoSaid'. A law counts once. -/
mutual
def uptoBulk {H : Type} : DataW H → Nat
  | .lit (.string bytes) => bytes.length + 1
  | .lit _ => 1
  | .nil => 1
  | .ptr d => uptoBulk d + 1
  | .slice elems spare => uptoBulkAll elems + uptoBulkAll spare + 1
  | .agg parts => uptoBulkAll parts + 1
  | .iface _ d => uptoBulk d + 1
  | .map entries => uptoBulkEntries entries + 1
  | .held _ => 1
def uptoBulkAll {H : Type} : List (DataW H) → Nat
  | [] => 0
  | d :: r => uptoBulk d + uptoBulkAll r
def uptoBulkEntries {H : Type} : List (Lit × DataW H) → Nat
  | [] => 0
  | x :: r => uptoBulkEntry x + uptoBulkEntries r
def uptoBulkEntry {H : Type} : Lit × DataW H → Nat
  | (.string bytes, d) => bytes.length + uptoBulk d + 1
  | (_, d) => uptoBulk d + 1
 end
def uptoSmall : (H : Type) → List (DataW H) → Bool := fun _ ds => decide (uptoBulkAll ds ≤ 1048576)
def OpenSpec.upto (s : _root_.Go.ChangeSpec) : _root_.Go.OpenSpec := { _root_.Go.OpenSpec.ofChange s with cond := some uptoSmall }

/-- 'dialtonelaw42.MergeMatchesReference', WHERE WHAT IT READS IS OF BULK AT MOST 1048576: true; the input reads as it did. -/
def mergeMatchesReferenceUptoRow : OpenClaim := { program := "ytgckmifmjiklmaagreat", sum := "9ab51caaca183f7aa5d8d77a3533005bdabf6ed46407260e6b2a83f7aca39a9f", func := "dialtone/dialtonelaw42.MergeMatchesReference", spec := "mergeMatchesReference", unfollowed := true, recurses := true, plainKeys := false, apart := false, narrowed := true }
def MergeMatchesReferenceUptoSaid : Prop := mergeMatchesReferenceUptoRow.holds Tryz.pinned (OpenSpec.upto mergeMatchesReferenceSpec)

/-- 'dialtonelaw42.MergeSuccessions', WHERE WHAT IT READS IS OF BULK AT MOST 1048576: true; the input reads as it did. -/
def mergeSuccessionsUptoRow : OpenClaim := { program := "ytgckmifmjiklmaagreat", sum := "9ab51caaca183f7aa5d8d77a3533005bdabf6ed46407260e6b2a83f7aca39a9f", func := "dialtone/dialtonelaw42.MergeSuccessions", spec := "mergeSuccessions", unfollowed := true, recurses := true, plainKeys := false, apart := false, narrowed := true }
def MergeSuccessionsUptoSaid : Prop := mergeSuccessionsUptoRow.holds Tryz.pinned (OpenSpec.upto mergeSuccessionsSpec)

/-- 'dialtonelaw42.MergeLevels', WHERE WHAT IT READS IS OF BULK AT MOST 1048576: true; the input reads as it did. -/
def mergeLevelsUptoRow : OpenClaim := { program := "ytgckmifmjiklmaagreat", sum := "9ab51caaca183f7aa5d8d77a3533005bdabf6ed46407260e6b2a83f7aca39a9f", func := "dialtone/dialtonelaw42.MergeLevels", spec := "mergeLevels", unfollowed := true, recurses := true, plainKeys := false, apart := false, narrowed := true }
def MergeLevelsUptoSaid : Prop := mergeLevelsUptoRow.holds Tryz.pinned (OpenSpec.upto mergeLevelsSpec)

/-- 'dialtonelaw42.MergeMoney', WHERE WHAT IT READS IS OF BULK AT MOST 1048576: true; the input reads as it did. -/
def mergeMoneyUptoRow : OpenClaim := { program := "ytgckmifmjiklmaagreat", sum := "9ab51caaca183f7aa5d8d77a3533005bdabf6ed46407260e6b2a83f7aca39a9f", func := "dialtone/dialtonelaw42.MergeMoney", spec := "mergeMoney", unfollowed := true, recurses := true, plainKeys := false, apart := false, narrowed := true }
def MergeMoneyUptoSaid : Prop := mergeMoneyUptoRow.holds Tryz.pinned (OpenSpec.upto mergeMoneySpec)

/-- 'dialtonelaw42.MergeNumbers', WHERE WHAT IT READS IS OF BULK AT MOST 1048576: true; the input reads as it did. -/
def mergeNumbersUptoRow : OpenClaim := { program := "ytgckmifmjiklmaagreat", sum := "9ab51caaca183f7aa5d8d77a3533005bdabf6ed46407260e6b2a83f7aca39a9f", func := "dialtone/dialtonelaw42.MergeNumbers", spec := "mergeNumbers", unfollowed := true, recurses := true, plainKeys := false, apart := false, narrowed := true }
def MergeNumbersUptoSaid : Prop := mergeNumbersUptoRow.holds Tryz.pinned (OpenSpec.upto mergeNumbersSpec)

/-- 'dialtonelaw42.MergeClaims', WHERE WHAT IT READS IS OF BULK AT MOST 1048576: true; the input reads as it did. -/
def mergeClaimsUptoRow : OpenClaim := { program := "ytgckmifmjiklmaagreat", sum := "9ab51caaca183f7aa5d8d77a3533005bdabf6ed46407260e6b2a83f7aca39a9f", func := "dialtone/dialtonelaw42.MergeClaims", spec := "mergeClaims", unfollowed := true, recurses := true, plainKeys := false, apart := false, narrowed := true }
def MergeClaimsUptoSaid : Prop := mergeClaimsUptoRow.holds Tryz.pinned (OpenSpec.upto mergeClaimsSpec)

/-- 'dialtonelaw42.MergeGoesMatchReference', WHERE WHAT IT READS IS OF BULK AT MOST 1048576: true; the input reads as it did. -/
def mergeGoesMatchReferenceUptoRow : OpenClaim := { program := "ytgckmifmjiklmaagreat", sum := "9ab51caaca183f7aa5d8d77a3533005bdabf6ed46407260e6b2a83f7aca39a9f", func := "dialtone/dialtonelaw42.MergeGoesMatchReference", spec := "mergeGoesMatchReference", unfollowed := true, recurses := true, plainKeys := false, apart := false, narrowed := true }
def MergeGoesMatchReferenceUptoSaid : Prop := mergeGoesMatchReferenceUptoRow.holds Tryz.pinned (OpenSpec.upto mergeGoesMatchReferenceSpec)

/-- 'dialtonelaw42.MergeChains', WHERE WHAT IT READS IS OF BULK AT MOST 1048576: true; the input reads as it did. -/
def mergeChainsUptoRow : OpenClaim := { program := "ytgckmifmjiklmaagreat", sum := "9ab51caaca183f7aa5d8d77a3533005bdabf6ed46407260e6b2a83f7aca39a9f", func := "dialtone/dialtonelaw42.MergeChains", spec := "mergeChains", unfollowed := true, recurses := true, plainKeys := false, apart := false, narrowed := true }
def MergeChainsUptoSaid : Prop := mergeChainsUptoRow.holds Tryz.pinned (OpenSpec.upto mergeChainsSpec)

end Rows
end Go.Proofs.YtgckmifmjiklmaaGreat
