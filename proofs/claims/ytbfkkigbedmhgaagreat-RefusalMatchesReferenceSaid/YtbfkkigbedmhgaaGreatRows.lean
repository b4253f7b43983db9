/-
  No cell of these rows narrows 'for every input' (looked for: loops, veiled, ifaces, maps, wideKeys, modest, calm, conditions, laid).
  DERIVED. THE GIVEN ROWS OF THIS SEAT. 9 by the template 'for every input the law returns true; each argument reads behind the call as it read before'; 0 by the template 'total and deterministic' (their statements: YtbfkkigbedmhgaaGreatTotals.lean).
  GIVEN WITH THE SEED: the statements are not yours to turn. If you find one false, say at which input.
  Laid BY PROGRAM, IN A SANDBOX (cutbox-rows.mjs): the forced cells as the released guide's own fill.sh prints them over the translation df9c7821d5bd1243… (all of the seat's roots in one cut). By AI agents, Wed Nov 11 2026. No macro, syntax, notation, axiom, sorry.
-/
import Derived.Test.YtbfkkigbedmhgaaGreatChecked
import GoSem.Claim
import GoSem.ClaimJoined
import GoSem.ClaimMapViews
import Derived.JoinedTies
import Derived.KernelRfl
namespace Go.Proofs.YtbfkkigbedmhgaaGreat
/- THE CELL 'sum', in the pinned program and in every row, IS THE sha256 OF THE DUMP (.gsa) THAT YtbfkkigbedmhgaaGreatProg.lean LOADS. Nothing in Lean hashes anything: it is a label: what it is worth is what the hold of that sum in a sandbox is worth. -/
noncomputable def Tryz.pinned : Pinned := { name := "ytbfkkigbedmhgaagreat", sum := "df9c7821d5bd12432a569e6d833e5173ba2f47a48f4eb9d6b1990f84aaf96634", checked := Tryz.checked }
namespace Rows
def none {H : Type} : Left H := { results := [], args := [] }

/-- 'dialtonelaw28.RefusalMatchesReference': WHATEVER THE INPUT: true; the input reads as it did. -/
def refusalMatchesReferenceSpec : ChangeSpec := { name := "refusalMatchesReference", fn := fun _ => fun
  | [d1, d2, d3, d4, d5, d6, d7, d8] => { results := [.lit (.bool true)], args := [d1, d2, d3, d4, d5, d6, d7, d8] }
  | _ => none }
def refusalMatchesReferenceRow : OpenClaim := { program := "ytbfkkigbedmhgaagreat", sum := "df9c7821d5bd12432a569e6d833e5173ba2f47a48f4eb9d6b1990f84aaf96634", func := "dialtone/dialtonelaw28.RefusalMatchesReference", spec := "refusalMatchesReference", unfollowed := true, recurses := true, plainKeys := false, apart := false }
def RefusalMatchesReferenceSaid : Prop := refusalMatchesReferenceRow.holds Tryz.pinned (OpenSpec.ofChange refusalMatchesReferenceSpec)

/-- ITS FALSE NEIGHBOUR: 'it returns false'. Refute it at one input. -/
def refusalMatchesReferenceWrong : ChangeSpec := { name := "refusalMatchesReference", fn := fun _ => fun
  | [d1, d2, d3, d4, d5, d6, d7, d8] => { results := [.lit (.bool false)], args := [d1, d2, d3, d4, d5, d6, d7, d8] }
  | _ => none }
def RefusalMatchesReferenceWrongFalsely : Prop := refusalMatchesReferenceRow.holds Tryz.pinned (OpenSpec.ofChange refusalMatchesReferenceWrong)

/-- 'dialtonelaw28.RefusalOne': WHATEVER THE INPUT: true; the input reads as it did. -/
def refusalOneSpec : ChangeSpec := { name := "refusalOne", fn := fun _ => fun
  | [d1, d2, d3, d4] => { results := [.lit (.bool true)], args := [d1, d2, d3, d4] }
  | _ => none }
def refusalOneRow : OpenClaim := { program := "ytbfkkigbedmhgaagreat", sum := "df9c7821d5bd12432a569e6d833e5173ba2f47a48f4eb9d6b1990f84aaf96634", func := "dialtone/dialtonelaw28.RefusalOne", spec := "refusalOne", unfollowed := true, recurses := true, plainKeys := false, apart := false }
def RefusalOneSaid : Prop := refusalOneRow.holds Tryz.pinned (OpenSpec.ofChange refusalOneSpec)

/-- ITS FALSE NEIGHBOUR: 'it returns false'. Refute it at one input. -/
def refusalOneWrong : ChangeSpec := { name := "refusalOne", fn := fun _ => fun
  | [d1, d2, d3, d4] => { results := [.lit (.bool false)], args := [d1, d2, d3, d4] }
  | _ => none }
def RefusalOneWrongFalsely : Prop := refusalOneRow.holds Tryz.pinned (OpenSpec.ofChange refusalOneWrong)

/-- 'dialtonelaw28.RefusalSound': WHATEVER THE INPUT: true; the input reads as it did. -/
def refusalSoundSpec : ChangeSpec := { name := "refusalSound", fn := fun _ => fun
  | [d1, d2, d3, d4, d5, d6, d7, d8, d9] => { results := [.lit (.bool true)], args := [d1, d2, d3, d4, d5, d6, d7, d8, d9] }
  | _ => none }
def refusalSoundRow : OpenClaim := { program := "ytbfkkigbedmhgaagreat", sum := "df9c7821d5bd12432a569e6d833e5173ba2f47a48f4eb9d6b1990f84aaf96634", func := "dialtone/dialtonelaw28.RefusalSound", spec := "refusalSound", unfollowed := true, recurses := true, plainKeys := false, apart := false }
def RefusalSoundSaid : Prop := refusalSoundRow.holds Tryz.pinned (OpenSpec.ofChange refusalSoundSpec)

/-- ITS FALSE NEIGHBOUR: 'it returns false'. Refute it at one input. -/
def refusalSoundWrong : ChangeSpec := { name := "refusalSound", fn := fun _ => fun
  | [d1, d2, d3, d4, d5, d6, d7, d8, d9] => { results := [.lit (.bool false)], args := [d1, d2, d3, d4, d5, d6, d7, d8, d9] }
  | _ => none }
def RefusalSoundWrongFalsely : Prop := refusalSoundRow.holds Tryz.pinned (OpenSpec.ofChange refusalSoundWrong)

/-- 'dialtonelaw28.RefusalRoom': WHATEVER THE INPUT: true; the input reads as it did. -/
def refusalRoomSpec : ChangeSpec := { name := "refusalRoom", fn := fun _ => fun
  | [d1, d2, d3, d4, d5] => { results := [.lit (.bool true)], args := [d1, d2, d3, d4, d5] }
  | _ => none }
def refusalRoomRow : OpenClaim := { program := "ytbfkkigbedmhgaagreat", sum := "df9c7821d5bd12432a569e6d833e5173ba2f47a48f4eb9d6b1990f84aaf96634", func := "dialtone/dialtonelaw28.RefusalRoom", spec := "refusalRoom", unfollowed := true, recurses := true, plainKeys := false, apart := false }
def RefusalRoomSaid : Prop := refusalRoomRow.holds Tryz.pinned (OpenSpec.ofChange refusalRoomSpec)

/-- ITS FALSE NEIGHBOUR: 'it returns false'. Refute it at one input. -/
def refusalRoomWrong : ChangeSpec := { name := "refusalRoom", fn := fun _ => fun
  | [d1, d2, d3, d4, d5] => { results := [.lit (.bool false)], args := [d1, d2, d3, d4, d5] }
  | _ => none }
def RefusalRoomWrongFalsely : Prop := refusalRoomRow.holds Tryz.pinned (OpenSpec.ofChange refusalRoomWrong)

/-- 'dialtonelaw28.RefusalOthers': WHATEVER THE INPUT: true; the input reads as it did. -/
def refusalOthersSpec : ChangeSpec := { name := "refusalOthers", fn := fun _ => fun
  | [d1, d2, d3, d4, d5] => { results := [.lit (.bool true)], args := [d1, d2, d3, d4, d5] }
  | _ => none }
def refusalOthersRow : OpenClaim := { program := "ytbfkkigbedmhgaagreat", sum := "df9c7821d5bd12432a569e6d833e5173ba2f47a48f4eb9d6b1990f84aaf96634", func := "dialtone/dialtonelaw28.RefusalOthers", spec := "refusalOthers", unfollowed := true, recurses := true, plainKeys := false, apart := false }
def RefusalOthersSaid : Prop := refusalOthersRow.holds Tryz.pinned (OpenSpec.ofChange refusalOthersSpec)

/-- ITS FALSE NEIGHBOUR: 'it returns false'. Refute it at one input. -/
def refusalOthersWrong : ChangeSpec := { name := "refusalOthers", fn := fun _ => fun
  | [d1, d2, d3, d4, d5] => { results := [.lit (.bool false)], args := [d1, d2, d3, d4, d5] }
  | _ => none }
def RefusalOthersWrongFalsely : Prop := refusalOthersRow.holds Tryz.pinned (OpenSpec.ofChange refusalOthersWrong)

/-- 'dialtonelaw28.RefusalPlain': WHATEVER THE INPUT: true; the input reads as it did. -/
def refusalPlainSpec : ChangeSpec := { name := "refusalPlain", fn := fun _ => fun
  | [d1, d2, d3, d4] => { results := [.lit (.bool true)], args := [d1, d2, d3, d4] }
  | _ => none }
def refusalPlainRow : OpenClaim := { program := "ytbfkkigbedmhgaagreat", sum := "df9c7821d5bd12432a569e6d833e5173ba2f47a48f4eb9d6b1990f84aaf96634", func := "dialtone/dialtonelaw28.RefusalPlain", spec := "refusalPlain", unfollowed := true, recurses := true, plainKeys := false, apart := false }
def RefusalPlainSaid : Prop := refusalPlainRow.holds Tryz.pinned (OpenSpec.ofChange refusalPlainSpec)

/-- ITS FALSE NEIGHBOUR: 'it returns false'. Refute it at one input. -/
def refusalPlainWrong : ChangeSpec := { name := "refusalPlain", fn := fun _ => fun
  | [d1, d2, d3, d4] => { results := [.lit (.bool false)], args := [d1, d2, d3, d4] }
  | _ => none }
def RefusalPlainWrongFalsely : Prop := refusalPlainRow.holds Tryz.pinned (OpenSpec.ofChange refusalPlainWrong)

/-- 'dialtonelaw28.RefusalClaims': WHATEVER THE INPUT: true; the input reads as it did. -/
def refusalClaimsSpec : ChangeSpec := { name := "refusalClaims", fn := fun _ => fun
  | [d1, d2, d3, d4] => { results := [.lit (.bool true)], args := [d1, d2, d3, d4] }
  | _ => none }
def refusalClaimsRow : OpenClaim := { program := "ytbfkkigbedmhgaagreat", sum := "df9c7821d5bd12432a569e6d833e5173ba2f47a48f4eb9d6b1990f84aaf96634", func := "dialtone/dialtonelaw28.RefusalClaims", spec := "refusalClaims", unfollowed := true, recurses := true, plainKeys := false, apart := false }
def RefusalClaimsSaid : Prop := refusalClaimsRow.holds Tryz.pinned (OpenSpec.ofChange refusalClaimsSpec)

/-- ITS FALSE NEIGHBOUR: 'it returns false'. Refute it at one input. -/
def refusalClaimsWrong : ChangeSpec := { name := "refusalClaims", fn := fun _ => fun
  | [d1, d2, d3, d4] => { results := [.lit (.bool false)], args := [d1, d2, d3, d4] }
  | _ => none }
def RefusalClaimsWrongFalsely : Prop := refusalClaimsRow.holds Tryz.pinned (OpenSpec.ofChange refusalClaimsWrong)

/-- 'dialtonelaw28.RefusalLines': WHATEVER THE INPUT: true; the input reads as it did. -/
def refusalLinesSpec : ChangeSpec := { name := "refusalLines", fn := fun _ => fun
  | [d1, d2, d3, d4, d5] => { results := [.lit (.bool true)], args := [d1, d2, d3, d4, d5] }
  | _ => none }
def refusalLinesRow : OpenClaim := { program := "ytbfkkigbedmhgaagreat", sum := "df9c7821d5bd12432a569e6d833e5173ba2f47a48f4eb9d6b1990f84aaf96634", func := "dialtone/dialtonelaw28.RefusalLines", spec := "refusalLines", unfollowed := true, recurses := true, plainKeys := false, apart := false }
def RefusalLinesSaid : Prop := refusalLinesRow.holds Tryz.pinned (OpenSpec.ofChange refusalLinesSpec)

/-- ITS FALSE NEIGHBOUR: 'it returns false'. Refute it at one input. -/
def refusalLinesWrong : ChangeSpec := { name := "refusalLines", fn := fun _ => fun
  | [d1, d2, d3, d4, d5] => { results := [.lit (.bool false)], args := [d1, d2, d3, d4, d5] }
  | _ => none }
def RefusalLinesWrongFalsely : Prop := refusalLinesRow.holds Tryz.pinned (OpenSpec.ofChange refusalLinesWrong)

/-- 'dialtonelaw28.RefusalWays': WHATEVER THE INPUT: true; the input reads as it did. -/
def refusalWaysSpec : ChangeSpec := { name := "refusalWays", fn := fun _ => fun
  | [d1, d2, d3, d4] => { results := [.lit (.bool true)], args := [d1, d2, d3, d4] }
  | _ => none }
def refusalWaysRow : OpenClaim := { program := "ytbfkkigbedmhgaagreat", sum := "df9c7821d5bd12432a569e6d833e5173ba2f47a48f4eb9d6b1990f84aaf96634", func := "dialtone/dialtonelaw28.RefusalWays", spec := "refusalWays", unfollowed := true, recurses := true, plainKeys := false, apart := false }
def RefusalWaysSaid : Prop := refusalWaysRow.holds Tryz.pinned (OpenSpec.ofChange refusalWaysSpec)

/-- ITS FALSE NEIGHBOUR: 'it returns false'. Refute it at one input. -/
def refusalWaysWrong : ChangeSpec := { name := "refusalWays", fn := fun _ => fun
  | [d1, d2, d3, d4] => { results := [.lit (.bool false)], args := [d1, d2, d3, d4] }
  | _ => none }
def RefusalWaysWrongFalsely : Prop := refusalWaysRow.holds Tryz.pinned (OpenSpec.ofChange refusalWaysWrong)

/- THE SECOND FORM. 'bulk': how many values and letters a reading holds, each counted each time it is reached (what is shared counts as often as it is met; a slice's spare places count too). A statement '..UptoSaid' is the law's where the arguments, and the package variables that the reading takes, are together of bulk at most 1048576: NARROWER than '..Said'. Prove '..Said' where nothing that the law and all that it calls make is longer than what came in: it says more and counts as full. Else prove '..UptoSaid'. A law counts once. -/
mutual
def uptoBulk {H : Type} : DataW H → Nat
  | .lit (.string bytes) => bytes.length + 1
  | .lit _ => 1
  | .nil => 1
  | .ptr d => uptoBulk d + 1
  | .slice elems spare => uptoBulkAll elems + uptoBulkAll spare + 1
  | .agg parts => uptoBulkAll parts + 1
  | .iface _ d => uptoBulk d + 1
  | .map entries => uptoBulkEntries entries + 1
  | .held _ => 1
def uptoBulkAll {H : Type} : List (DataW H) → Nat
  | [] => 0
  | d :: r => uptoBulk d + uptoBulkAll r
def uptoBulkEntries {H : Type} : List (Lit × DataW H) → Nat
  | [] => 0
  | x :: r => uptoBulkEntry x + uptoBulkEntries r
def uptoBulkEntry {H : Type} : Lit × DataW H → Nat
  | (.string bytes, d) => bytes.length + uptoBulk d + 1
  | (_, d) => uptoBulk d + 1
 end
def uptoSmall : (H : Type) → List (DataW H) → Bool := fun _ ds => decide (uptoBulkAll ds ≤ 1048576)
def OpenSpec.upto (s : _root_.Go.ChangeSpec) : _root_.Go.OpenSpec := { _root_.Go.OpenSpec.ofChange s with cond := some uptoSmall }

/-- 'dialtonelaw28.RefusalMatchesReference', WHERE WHAT IT READS IS OF BULK AT MOST 1048576: true; the input reads as it did. -/
def refusalMatchesReferenceUptoRow : OpenClaim := { program := "ytbfkkigbedmhgaagreat", sum := "df9c7821d5bd12432a569e6d833e5173ba2f47a48f4eb9d6b1990f84aaf96634", func := "dialtone/dialtonelaw28.RefusalMatchesReference", spec := "refusalMatchesReference", unfollowed := true, recurses := true, plainKeys := false, apart := false, narrowed := true }
def RefusalMatchesReferenceUptoSaid : Prop := refusalMatchesReferenceUptoRow.holds Tryz.pinned (OpenSpec.upto refusalMatchesReferenceSpec)

/-- 'dialtonelaw28.RefusalOne', WHERE WHAT IT READS IS OF BULK AT MOST 1048576: true; the input reads as it did. -/
def refusalOneUptoRow : OpenClaim := { program := "ytbfkkigbedmhgaagreat", sum := "df9c7821d5bd12432a569e6d833e5173ba2f47a48f4eb9d6b1990f84aaf96634", func := "dialtone/dialtonelaw28.RefusalOne", spec := "refusalOne", unfollowed := true, recurses := true, plainKeys := false, apart := false, narrowed := true }
def RefusalOneUptoSaid : Prop := refusalOneUptoRow.holds Tryz.pinned (OpenSpec.upto refusalOneSpec)

/-- 'dialtonelaw28.RefusalSound', WHERE WHAT IT READS IS OF BULK AT MOST 1048576: true; the input reads as it did. -/
def refusalSoundUptoRow : OpenClaim := { program := "ytbfkkigbedmhgaagreat", sum := "df9c7821d5bd12432a569e6d833e5173ba2f47a48f4eb9d6b1990f84aaf96634", func := "dialtone/dialtonelaw28.RefusalSound", spec := "refusalSound", unfollowed := true, recurses := true, plainKeys := false, apart := false, narrowed := true }
def RefusalSoundUptoSaid : Prop := refusalSoundUptoRow.holds Tryz.pinned (OpenSpec.upto refusalSoundSpec)

/-- 'dialtonelaw28.RefusalRoom', WHERE WHAT IT READS IS OF BULK AT MOST 1048576: true; the input reads as it did. -/
def refusalRoomUptoRow : OpenClaim := { program := "ytbfkkigbedmhgaagreat", sum := "df9c7821d5bd12432a569e6d833e5173ba2f47a48f4eb9d6b1990f84aaf96634", func := "dialtone/dialtonelaw28.RefusalRoom", spec := "refusalRoom", unfollowed := true, recurses := true, plainKeys := false, apart := false, narrowed := true }
def RefusalRoomUptoSaid : Prop := refusalRoomUptoRow.holds Tryz.pinned (OpenSpec.upto refusalRoomSpec)

/-- 'dialtonelaw28.RefusalOthers', WHERE WHAT IT READS IS OF BULK AT MOST 1048576: true; the input reads as it did. -/
def refusalOthersUptoRow : OpenClaim := { program := "ytbfkkigbedmhgaagreat", sum := "df9c7821d5bd12432a569e6d833e5173ba2f47a48f4eb9d6b1990f84aaf96634", func := "dialtone/dialtonelaw28.RefusalOthers", spec := "refusalOthers", unfollowed := true, recurses := true, plainKeys := false, apart := false, narrowed := true }
def RefusalOthersUptoSaid : Prop := refusalOthersUptoRow.holds Tryz.pinned (OpenSpec.upto refusalOthersSpec)

/-- 'dialtonelaw28.RefusalPlain', WHERE WHAT IT READS IS OF BULK AT MOST 1048576: true; the input reads as it did. -/
def refusalPlainUptoRow : OpenClaim := { program := "ytbfkkigbedmhgaagreat", sum := "df9c7821d5bd12432a569e6d833e5173ba2f47a48f4eb9d6b1990f84aaf96634", func := "dialtone/dialtonelaw28.RefusalPlain", spec := "refusalPlain", unfollowed := true, recurses := true, plainKeys := false, apart := false, narrowed := true }
def RefusalPlainUptoSaid : Prop := refusalPlainUptoRow.holds Tryz.pinned (OpenSpec.upto refusalPlainSpec)

/-- 'dialtonelaw28.RefusalClaims', WHERE WHAT IT READS IS OF BULK AT MOST 1048576: true; the input reads as it did. -/
def refusalClaimsUptoRow : OpenClaim := { program := "ytbfkkigbedmhgaagreat", sum := "df9c7821d5bd12432a569e6d833e5173ba2f47a48f4eb9d6b1990f84aaf96634", func := "dialtone/dialtonelaw28.RefusalClaims", spec := "refusalClaims", unfollowed := true, recurses := true, plainKeys := false, apart := false, narrowed := true }
def RefusalClaimsUptoSaid : Prop := refusalClaimsUptoRow.holds Tryz.pinned (OpenSpec.upto refusalClaimsSpec)

/-- 'dialtonelaw28.RefusalLines', WHERE WHAT IT READS IS OF BULK AT MOST 1048576: true; the input reads as it did. -/
def refusalLinesUptoRow : OpenClaim := { program := "ytbfkkigbedmhgaagreat", sum := "df9c7821d5bd12432a569e6d833e5173ba2f47a48f4eb9d6b1990f84aaf96634", func := "dialtone/dialtonelaw28.RefusalLines", spec := "refusalLines", unfollowed := true, recurses := true, plainKeys := false, apart := false, narrowed := true }
def RefusalLinesUptoSaid : Prop := refusalLinesUptoRow.holds Tryz.pinned (OpenSpec.upto refusalLinesSpec)

/-- 'dialtonelaw28.RefusalWays', WHERE WHAT IT READS IS OF BULK AT MOST 1048576: true; the input reads as it did. -/
def refusalWaysUptoRow : OpenClaim := { program := "ytbfkkigbedmhgaagreat", sum := "df9c7821d5bd12432a569e6d833e5173ba2f47a48f4eb9d6b1990f84aaf96634", func := "dialtone/dialtonelaw28.RefusalWays", spec := "refusalWays", unfollowed := true, recurses := true, plainKeys := false, apart := false, narrowed := true }
def RefusalWaysUptoSaid : Prop := refusalWaysUptoRow.holds Tryz.pinned (OpenSpec.upto refusalWaysSpec)

end Rows
end Go.Proofs.YtbfkkigbedmhgaaGreat
