/-
  No cell of these rows narrows 'for every input' (looked for: loops, veiled, ifaces, maps, wideKeys, modest, calm, conditions, laid).
  DERIVED. THE GIVEN ROWS OF THIS SEAT. 2 by the template 'for every input the law returns true; each argument reads behind the call as it read before'; 0 by the template 'total and deterministic' (their statements: YtjllgiddmeiaoaaGreatTotals.lean).
  GIVEN WITH THE SEED: the statements are not yours to turn. If you find one false, say at which input.
  Laid BY PROGRAM, IN A SANDBOX (cutbox-rows.mjs): the forced cells as the released guide's own fill.sh prints them over the translation 3ecebc075c1e62b4… (all of the seat's roots in one cut). By AI agents, Wed Nov 11 2026. No macro, syntax, notation, axiom, sorry.
-/
import Derived.Test.YtjllgiddmeiaoaaGreatChecked
import GoSem.Claim
import GoSem.ClaimJoined
import GoSem.ClaimMapViews
import Derived.JoinedTies
import Derived.KernelRfl
namespace Go.Proofs.YtjllgiddmeiaoaaGreat
/- THE CELL 'sum', in the pinned program and in every row, IS THE sha256 OF THE DUMP (.gsa) THAT YtjllgiddmeiaoaaGreatProg.lean LOADS. Nothing in Lean hashes anything: it is a label: what it is worth is what the hold of that sum in a sandbox is worth. -/
noncomputable def Tryz.pinned : Pinned := { name := "ytjllgiddmeiaoaagreat", sum := "3ecebc075c1e62b4ab25337de7cdd30bff064533d619d832f6cf8b28224cbc0b", checked := Tryz.checked }
namespace Rows
def none {H : Type} : Left H := { results := [], args := [] }

/-- 'dialtonelaw17.ChainMatchesReference': WHATEVER THE INPUT: true; the input reads as it did. -/
def chainMatchesReferenceSpec : ChangeSpec := { name := "chainMatchesReference", fn := fun _ => fun
  | [d1, d2, d3, d4] => { results := [.lit (.bool true)], args := [d1, d2, d3, d4] }
  | _ => none }
def chainMatchesReferenceRow : OpenClaim := { program := "ytjllgiddmeiaoaagreat", sum := "3ecebc075c1e62b4ab25337de7cdd30bff064533d619d832f6cf8b28224cbc0b", func := "dialtone/dialtonelaw17.ChainMatchesReference", spec := "chainMatchesReference", unfollowed := true, recurses := true, plainKeys := false, apart := false }
def ChainMatchesReferenceSaid : Prop := chainMatchesReferenceRow.holds Tryz.pinned (OpenSpec.ofChange chainMatchesReferenceSpec)

/-- ITS FALSE NEIGHBOUR: 'it returns false'. Refute it at one input. -/
def chainMatchesReferenceWrong : ChangeSpec := { name := "chainMatchesReference", fn := fun _ => fun
  | [d1, d2, d3, d4] => { results := [.lit (.bool false)], args := [d1, d2, d3, d4] }
  | _ => none }
def ChainMatchesReferenceWrongFalsely : Prop := chainMatchesReferenceRow.holds Tryz.pinned (OpenSpec.ofChange chainMatchesReferenceWrong)

/-- 'dialtonelaw17.ChainMaps': WHATEVER THE INPUT: true; the input reads as it did. -/
def chainMapsSpec : ChangeSpec := { name := "chainMaps", fn := fun _ => fun
  | [d1, d2, d3, d4] => { results := [.lit (.bool true)], args := [d1, d2, d3, d4] }
  | _ => none }
def chainMapsRow : OpenClaim := { program := "ytjllgiddmeiaoaagreat", sum := "3ecebc075c1e62b4ab25337de7cdd30bff064533d619d832f6cf8b28224cbc0b", func := "dialtone/dialtonelaw17.ChainMaps", spec := "chainMaps", unfollowed := true, recurses := true, plainKeys := false, apart := false }
def ChainMapsSaid : Prop := chainMapsRow.holds Tryz.pinned (OpenSpec.ofChange chainMapsSpec)

/-- ITS FALSE NEIGHBOUR: 'it returns false'. Refute it at one input. -/
def chainMapsWrong : ChangeSpec := { name := "chainMaps", fn := fun _ => fun
  | [d1, d2, d3, d4] => { results := [.lit (.bool false)], args := [d1, d2, d3, d4] }
  | _ => none }
def ChainMapsWrongFalsely : Prop := chainMapsRow.holds Tryz.pinned (OpenSpec.ofChange chainMapsWrong)

/- THE SECOND FORM. 'bulk': how many values and letters a reading holds, each counted each time it is reached (what is shared counts as often as it is met; a slice's spare places count too). A statement '..UptoSaid' is the law's where the arguments, and the package variables that the reading takes, are together of bulk at most 1048576: NARROWER than '..Said'. Prove '..Said' where nothing that the law and all that it calls make is longer than what came in: it says more and counts as full. Else prove '..UptoSaid'. A law counts once. -/
mutual
def uptoBulk {H : Type} : DataW H → Nat
  | .lit (.string bytes) => bytes.length + 1
  | .lit _ => 1
  | .nil => 1
  | .ptr d => uptoBulk d + 1
  | .slice elems spare => uptoBulkAll elems + uptoBulkAll spare + 1
  | .agg parts => uptoBulkAll parts + 1
  | .iface _ d => uptoBulk d + 1
  | .map entries => uptoBulkEntries entries + 1
  | .held _ => 1
def uptoBulkAll {H : Type} : List (DataW H) → Nat
  | [] => 0
  | d :: r => uptoBulk d + uptoBulkAll r
def uptoBulkEntries {H : Type} : List (Lit × DataW H) → Nat
  | [] => 0
  | x :: r => uptoBulkEntry x + uptoBulkEntries r
def uptoBulkEntry {H : Type} : Lit × DataW H → Nat
  | (.string bytes, d) => bytes.length + uptoBulk d + 1
  | (_, d) => uptoBulk d + 1
 end
def uptoSmall : (H : Type) → List (DataW H) → Bool := fun _ ds => decide (uptoBulkAll ds ≤ 1048576)
def OpenSpec.upto (s : _root_.Go.ChangeSpec) : _root_.Go.OpenSpec := { _root_.Go.OpenSpec.ofChange s with cond := some uptoSmall }

/-- 'dialtonelaw17.ChainMatchesReference', WHERE WHAT IT READS IS OF BULK AT MOST 1048576: true; the input reads as it did. -/
def chainMatchesReferenceUptoRow : OpenClaim := { program := "ytjllgiddmeiaoaagreat", sum := "3ecebc075c1e62b4ab25337de7cdd30bff064533d619d832f6cf8b28224cbc0b", func := "dialtone/dialtonelaw17.ChainMatchesReference", spec := "chainMatchesReference", unfollowed := true, recurses := true, plainKeys := false, apart := false, narrowed := true }
def ChainMatchesReferenceUptoSaid : Prop := chainMatchesReferenceUptoRow.holds Tryz.pinned (OpenSpec.upto chainMatchesReferenceSpec)

/-- 'dialtonelaw17.ChainMaps', WHERE WHAT IT READS IS OF BULK AT MOST 1048576: true; the input reads as it did. -/
def chainMapsUptoRow : OpenClaim := { program := "ytjllgiddmeiaoaagreat", sum := "3ecebc075c1e62b4ab25337de7cdd30bff064533d619d832f6cf8b28224cbc0b", func := "dialtone/dialtonelaw17.ChainMaps", spec := "chainMaps", unfollowed := true, recurses := true, plainKeys := false, apart := false, narrowed := true }
def ChainMapsUptoSaid : Prop := chainMapsUptoRow.holds Tryz.pinned (OpenSpec.upto chainMapsSpec)

end Rows
end Go.Proofs.YtjllgiddmeiaoaaGreat
