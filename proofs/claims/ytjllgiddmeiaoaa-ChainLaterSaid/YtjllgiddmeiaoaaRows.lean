/-
  No cell of these rows narrows 'for every input' (looked for: loops, veiled, ifaces, maps, wideKeys, modest, calm, conditions, laid).
  DERIVED. THE GIVEN ROWS OF THIS SEAT. 9 by the template 'for every input the law returns true; each argument reads behind the call as it read before'; 0 by the template 'total and deterministic' (their statements: YtjllgiddmeiaoaaTotals.lean).
  GIVEN WITH THE SEED: the statements are not yours to turn. If you find one false, say at which input.
  Laid BY PROGRAM, IN A SANDBOX (cutbox-rows.mjs): the forced cells as the released guide's own fill.sh prints them over the translation 7c2d6bd3cf75ba63… (all of the seat's roots in one cut). By AI agents, Wed Nov 11 2026. No macro, syntax, notation, axiom, sorry.
-/
import Derived.Test.YtjllgiddmeiaoaaChecked
import GoSem.Claim
import GoSem.ClaimJoined
import GoSem.ClaimMapViews
import Derived.JoinedTies
import Derived.KernelRfl
namespace Go.Proofs.Ytjllgiddmeiaoaa
/- THE CELL 'sum', in the pinned program and in every row, IS THE sha256 OF THE DUMP (.gsa) THAT YtjllgiddmeiaoaaProg.lean LOADS. Nothing in Lean hashes anything: it is a label: what it is worth is what the hold of that sum in a sandbox is worth. -/
noncomputable def Try.pinned : Pinned := { name := "ytjllgiddmeiaoaa", sum := "7c2d6bd3cf75ba6300ca792ff8f61ca52ba6662f1b00be46146895ee04ff74fc", checked := Try.checked }
namespace Rows
def none {H : Type} : Left H := { results := [], args := [] }

/-- 'dialtonelaw17.ChainOne': WHATEVER THE INPUT: true; the input reads as it did. -/
def chainOneSpec : ChangeSpec := { name := "chainOne", fn := fun _ => fun
  | [d1, d2] => { results := [.lit (.bool true)], args := [d1, d2] }
  | _ => none }
def chainOneRow : OpenClaim := { program := "ytjllgiddmeiaoaa", sum := "7c2d6bd3cf75ba6300ca792ff8f61ca52ba6662f1b00be46146895ee04ff74fc", func := "dialtone/dialtonelaw17.ChainOne", spec := "chainOne", unfollowed := true, recurses := true, plainKeys := false, apart := false }
def ChainOneSaid : Prop := chainOneRow.holds Try.pinned (OpenSpec.ofChange chainOneSpec)

/-- ITS FALSE NEIGHBOUR: 'it returns false'. Refute it at one input. -/
def chainOneWrong : ChangeSpec := { name := "chainOne", fn := fun _ => fun
  | [d1, d2] => { results := [.lit (.bool false)], args := [d1, d2] }
  | _ => none }
def ChainOneWrongFalsely : Prop := chainOneRow.holds Try.pinned (OpenSpec.ofChange chainOneWrong)

/-- 'dialtonelaw17.ChainSettles': WHATEVER THE INPUT: true; the input reads as it did. -/
def chainSettlesSpec : ChangeSpec := { name := "chainSettles", fn := fun _ => fun
  | [d1, d2] => { results := [.lit (.bool true)], args := [d1, d2] }
  | _ => none }
def chainSettlesRow : OpenClaim := { program := "ytjllgiddmeiaoaa", sum := "7c2d6bd3cf75ba6300ca792ff8f61ca52ba6662f1b00be46146895ee04ff74fc", func := "dialtone/dialtonelaw17.ChainSettles", spec := "chainSettles", unfollowed := true, recurses := true, plainKeys := false, apart := false }
def ChainSettlesSaid : Prop := chainSettlesRow.holds Try.pinned (OpenSpec.ofChange chainSettlesSpec)

/-- ITS FALSE NEIGHBOUR: 'it returns false'. Refute it at one input. -/
def chainSettlesWrong : ChangeSpec := { name := "chainSettles", fn := fun _ => fun
  | [d1, d2] => { results := [.lit (.bool false)], args := [d1, d2] }
  | _ => none }
def ChainSettlesWrongFalsely : Prop := chainSettlesRow.holds Try.pinned (OpenSpec.ofChange chainSettlesWrong)

/-- 'dialtonelaw17.ChainFinal': WHATEVER THE INPUT: true; the input reads as it did. -/
def chainFinalSpec : ChangeSpec := { name := "chainFinal", fn := fun _ => fun
  | [d1, d2, d3] => { results := [.lit (.bool true)], args := [d1, d2, d3] }
  | _ => none }
def chainFinalRow : OpenClaim := { program := "ytjllgiddmeiaoaa", sum := "7c2d6bd3cf75ba6300ca792ff8f61ca52ba6662f1b00be46146895ee04ff74fc", func := "dialtone/dialtonelaw17.ChainFinal", spec := "chainFinal", unfollowed := true, recurses := true, plainKeys := false, apart := false }
def ChainFinalSaid : Prop := chainFinalRow.holds Try.pinned (OpenSpec.ofChange chainFinalSpec)

/-- ITS FALSE NEIGHBOUR: 'it returns false'. Refute it at one input. -/
def chainFinalWrong : ChangeSpec := { name := "chainFinal", fn := fun _ => fun
  | [d1, d2, d3] => { results := [.lit (.bool false)], args := [d1, d2, d3] }
  | _ => none }
def ChainFinalWrongFalsely : Prop := chainFinalRow.holds Try.pinned (OpenSpec.ofChange chainFinalWrong)

/-- 'dialtonelaw17.ChainBack': WHATEVER THE INPUT: true; the input reads as it did. -/
def chainBackSpec : ChangeSpec := { name := "chainBack", fn := fun _ => fun
  | [d] => { results := [.lit (.bool true)], args := [d] }
  | _ => none }
def chainBackRow : OpenClaim := { program := "ytjllgiddmeiaoaa", sum := "7c2d6bd3cf75ba6300ca792ff8f61ca52ba6662f1b00be46146895ee04ff74fc", func := "dialtone/dialtonelaw17.ChainBack", spec := "chainBack", unfollowed := true, recurses := true, plainKeys := false, apart := false }
def ChainBackSaid : Prop := chainBackRow.holds Try.pinned (OpenSpec.ofChange chainBackSpec)

/-- ITS FALSE NEIGHBOUR: 'it returns false'. Refute it at one input. -/
def chainBackWrong : ChangeSpec := { name := "chainBack", fn := fun _ => fun
  | [d] => { results := [.lit (.bool false)], args := [d] }
  | _ => none }
def ChainBackWrongFalsely : Prop := chainBackRow.holds Try.pinned (OpenSpec.ofChange chainBackWrong)

/-- 'dialtonelaw17.ChainMisses': WHATEVER THE INPUT: true; the input reads as it did. -/
def chainMissesSpec : ChangeSpec := { name := "chainMisses", fn := fun _ => fun
  | [d1, d2, d3] => { results := [.lit (.bool true)], args := [d1, d2, d3] }
  | _ => none }
def chainMissesRow : OpenClaim := { program := "ytjllgiddmeiaoaa", sum := "7c2d6bd3cf75ba6300ca792ff8f61ca52ba6662f1b00be46146895ee04ff74fc", func := "dialtone/dialtonelaw17.ChainMisses", spec := "chainMisses", unfollowed := true, recurses := true, plainKeys := false, apart := false }
def ChainMissesSaid : Prop := chainMissesRow.holds Try.pinned (OpenSpec.ofChange chainMissesSpec)

/-- ITS FALSE NEIGHBOUR: 'it returns false'. Refute it at one input. -/
def chainMissesWrong : ChangeSpec := { name := "chainMisses", fn := fun _ => fun
  | [d1, d2, d3] => { results := [.lit (.bool false)], args := [d1, d2, d3] }
  | _ => none }
def ChainMissesWrongFalsely : Prop := chainMissesRow.holds Try.pinned (OpenSpec.ofChange chainMissesWrong)

/-- 'dialtonelaw17.ChainHolder': WHATEVER THE INPUT: true; the input reads as it did. -/
def chainHolderSpec : ChangeSpec := { name := "chainHolder", fn := fun _ => fun
  | [d] => { results := [.lit (.bool true)], args := [d] }
  | _ => none }
def chainHolderRow : OpenClaim := { program := "ytjllgiddmeiaoaa", sum := "7c2d6bd3cf75ba6300ca792ff8f61ca52ba6662f1b00be46146895ee04ff74fc", func := "dialtone/dialtonelaw17.ChainHolder", spec := "chainHolder", unfollowed := true, recurses := true, plainKeys := false, apart := false }
def ChainHolderSaid : Prop := chainHolderRow.holds Try.pinned (OpenSpec.ofChange chainHolderSpec)

/-- ITS FALSE NEIGHBOUR: 'it returns false'. Refute it at one input. -/
def chainHolderWrong : ChangeSpec := { name := "chainHolder", fn := fun _ => fun
  | [d] => { results := [.lit (.bool false)], args := [d] }
  | _ => none }
def ChainHolderWrongFalsely : Prop := chainHolderRow.holds Try.pinned (OpenSpec.ofChange chainHolderWrong)

/-- 'dialtonelaw17.ChainLater': WHATEVER THE INPUT: true; the input reads as it did. -/
def chainLaterSpec : ChangeSpec := { name := "chainLater", fn := fun _ => fun
  | [d1, d2] => { results := [.lit (.bool true)], args := [d1, d2] }
  | _ => none }
def chainLaterRow : OpenClaim := { program := "ytjllgiddmeiaoaa", sum := "7c2d6bd3cf75ba6300ca792ff8f61ca52ba6662f1b00be46146895ee04ff74fc", func := "dialtone/dialtonelaw17.ChainLater", spec := "chainLater", unfollowed := true, recurses := true, plainKeys := false, apart := false }
def ChainLaterSaid : Prop := chainLaterRow.holds Try.pinned (OpenSpec.ofChange chainLaterSpec)

/-- ITS FALSE NEIGHBOUR: 'it returns false'. Refute it at one input. -/
def chainLaterWrong : ChangeSpec := { name := "chainLater", fn := fun _ => fun
  | [d1, d2] => { results := [.lit (.bool false)], args := [d1, d2] }
  | _ => none }
def ChainLaterWrongFalsely : Prop := chainLaterRow.holds Try.pinned (OpenSpec.ofChange chainLaterWrong)

/-- 'dialtonelaw17.ChainNumbers': WHATEVER THE INPUT: true; the input reads as it did. -/
def chainNumbersSpec : ChangeSpec := { name := "chainNumbers", fn := fun _ => fun
  | [d1, d2, d3] => { results := [.lit (.bool true)], args := [d1, d2, d3] }
  | _ => none }
def chainNumbersRow : OpenClaim := { program := "ytjllgiddmeiaoaa", sum := "7c2d6bd3cf75ba6300ca792ff8f61ca52ba6662f1b00be46146895ee04ff74fc", func := "dialtone/dialtonelaw17.ChainNumbers", spec := "chainNumbers", unfollowed := true, recurses := true, plainKeys := false, apart := false }
def ChainNumbersSaid : Prop := chainNumbersRow.holds Try.pinned (OpenSpec.ofChange chainNumbersSpec)

/-- ITS FALSE NEIGHBOUR: 'it returns false'. Refute it at one input. -/
def chainNumbersWrong : ChangeSpec := { name := "chainNumbers", fn := fun _ => fun
  | [d1, d2, d3] => { results := [.lit (.bool false)], args := [d1, d2, d3] }
  | _ => none }
def ChainNumbersWrongFalsely : Prop := chainNumbersRow.holds Try.pinned (OpenSpec.ofChange chainNumbersWrong)

/-- 'dialtonelaw17.ChainAlone': WHATEVER THE INPUT: true; the input reads as it did. -/
def chainAloneSpec : ChangeSpec := { name := "chainAlone", fn := fun _ => fun
  | [d1, d2, d3] => { results := [.lit (.bool true)], args := [d1, d2, d3] }
  | _ => none }
def chainAloneRow : OpenClaim := { program := "ytjllgiddmeiaoaa", sum := "7c2d6bd3cf75ba6300ca792ff8f61ca52ba6662f1b00be46146895ee04ff74fc", func := "dialtone/dialtonelaw17.ChainAlone", spec := "chainAlone", unfollowed := true, recurses := true, plainKeys := false, apart := false }
def ChainAloneSaid : Prop := chainAloneRow.holds Try.pinned (OpenSpec.ofChange chainAloneSpec)

/-- ITS FALSE NEIGHBOUR: 'it returns false'. Refute it at one input. -/
def chainAloneWrong : ChangeSpec := { name := "chainAlone", fn := fun _ => fun
  | [d1, d2, d3] => { results := [.lit (.bool false)], args := [d1, d2, d3] }
  | _ => none }
def ChainAloneWrongFalsely : Prop := chainAloneRow.holds Try.pinned (OpenSpec.ofChange chainAloneWrong)

/- THE SECOND FORM. 'bulk': how many values and letters a reading holds, each counted each time it is reached (what is shared counts as often as it is met; a slice's spare places count too). A statement '..UptoSaid' is the law's where the arguments, and the package variables that the reading takes, are together of bulk at most 1048576: NARROWER than '..Said'. Prove '..Said' where nothing that the law and all that it calls make is longer than what came in: it says more and counts as full. Else prove '..UptoSaid'. A law counts once. -/
mutual
def uptoBulk {H : Type} : DataW H → Nat
  | .lit (.string bytes) => bytes.length + 1
  | .lit _ => 1
  | .nil => 1
  | .ptr d => uptoBulk d + 1
  | .slice elems spare => uptoBulkAll elems + uptoBulkAll spare + 1
  | .agg parts => uptoBulkAll parts + 1
  | .iface _ d => uptoBulk d + 1
  | .map entries => uptoBulkEntries entries + 1
  | .held _ => 1
def uptoBulkAll {H : Type} : List (DataW H) → Nat
  | [] => 0
  | d :: r => uptoBulk d + uptoBulkAll r
def uptoBulkEntries {H : Type} : List (Lit × DataW H) → Nat
  | [] => 0
  | x :: r => uptoBulkEntry x + uptoBulkEntries r
def uptoBulkEntry {H : Type} : Lit × DataW H → Nat
  | (.string bytes, d) => bytes.length + uptoBulk d + 1
  | (_, d) => uptoBulk d + 1
 end
def uptoSmall : (H : Type) → List (DataW H) → Bool := fun _ ds => decide (uptoBulkAll ds ≤ 1048576)
def OpenSpec.upto (s : _root_.Go.ChangeSpec) : _root_.Go.OpenSpec := { _root_.Go.OpenSpec.ofChange s with cond := some uptoSmall }

/-- 'dialtonelaw17.ChainOne', WHERE WHAT IT READS IS OF BULK AT MOST 1048576: true; the input reads as it did. -/
def chainOneUptoRow : OpenClaim := { program := "ytjllgiddmeiaoaa", sum := "7c2d6bd3cf75ba6300ca792ff8f61ca52ba6662f1b00be46146895ee04ff74fc", func := "dialtone/dialtonelaw17.ChainOne", spec := "chainOne", unfollowed := true, recurses := true, plainKeys := false, apart := false, narrowed := true }
def ChainOneUptoSaid : Prop := chainOneUptoRow.holds Try.pinned (OpenSpec.upto chainOneSpec)

/-- 'dialtonelaw17.ChainSettles', WHERE WHAT IT READS IS OF BULK AT MOST 1048576: true; the input reads as it did. -/
def chainSettlesUptoRow : OpenClaim := { program := "ytjllgiddmeiaoaa", sum := "7c2d6bd3cf75ba6300ca792ff8f61ca52ba6662f1b00be46146895ee04ff74fc", func := "dialtone/dialtonelaw17.ChainSettles", spec := "chainSettles", unfollowed := true, recurses := true, plainKeys := false, apart := false, narrowed := true }
def ChainSettlesUptoSaid : Prop := chainSettlesUptoRow.holds Try.pinned (OpenSpec.upto chainSettlesSpec)

/-- 'dialtonelaw17.ChainFinal', WHERE WHAT IT READS IS OF BULK AT MOST 1048576: true; the input reads as it did. -/
def chainFinalUptoRow : OpenClaim := { program := "ytjllgiddmeiaoaa", sum := "7c2d6bd3cf75ba6300ca792ff8f61ca52ba6662f1b00be46146895ee04ff74fc", func := "dialtone/dialtonelaw17.ChainFinal", spec := "chainFinal", unfollowed := true, recurses := true, plainKeys := false, apart := false, narrowed := true }
def ChainFinalUptoSaid : Prop := chainFinalUptoRow.holds Try.pinned (OpenSpec.upto chainFinalSpec)

/-- 'dialtonelaw17.ChainBack', WHERE WHAT IT READS IS OF BULK AT MOST 1048576: true; the input reads as it did. -/
def chainBackUptoRow : OpenClaim := { program := "ytjllgiddmeiaoaa", sum := "7c2d6bd3cf75ba6300ca792ff8f61ca52ba6662f1b00be46146895ee04ff74fc", func := "dialtone/dialtonelaw17.ChainBack", spec := "chainBack", unfollowed := true, recurses := true, plainKeys := false, apart := false, narrowed := true }
def ChainBackUptoSaid : Prop := chainBackUptoRow.holds Try.pinned (OpenSpec.upto chainBackSpec)

/-- 'dialtonelaw17.ChainMisses', WHERE WHAT IT READS IS OF BULK AT MOST 1048576: true; the input reads as it did. -/
def chainMissesUptoRow : OpenClaim := { program := "ytjllgiddmeiaoaa", sum := "7c2d6bd3cf75ba6300ca792ff8f61ca52ba6662f1b00be46146895ee04ff74fc", func := "dialtone/dialtonelaw17.ChainMisses", spec := "chainMisses", unfollowed := true, recurses := true, plainKeys := false, apart := false, narrowed := true }
def ChainMissesUptoSaid : Prop := chainMissesUptoRow.holds Try.pinned (OpenSpec.upto chainMissesSpec)

/-- 'dialtonelaw17.ChainHolder', WHERE WHAT IT READS IS OF BULK AT MOST 1048576: true; the input reads as it did. -/
def chainHolderUptoRow : OpenClaim := { program := "ytjllgiddmeiaoaa", sum := "7c2d6bd3cf75ba6300ca792ff8f61ca52ba6662f1b00be46146895ee04ff74fc", func := "dialtone/dialtonelaw17.ChainHolder", spec := "chainHolder", unfollowed := true, recurses := true, plainKeys := false, apart := false, narrowed := true }
def ChainHolderUptoSaid : Prop := chainHolderUptoRow.holds Try.pinned (OpenSpec.upto chainHolderSpec)

/-- 'dialtonelaw17.ChainLater', WHERE WHAT IT READS IS OF BULK AT MOST 1048576: true; the input reads as it did. -/
def chainLaterUptoRow : OpenClaim := { program := "ytjllgiddmeiaoaa", sum := "7c2d6bd3cf75ba6300ca792ff8f61ca52ba6662f1b00be46146895ee04ff74fc", func := "dialtone/dialtonelaw17.ChainLater", spec := "chainLater", unfollowed := true, recurses := true, plainKeys := false, apart := false, narrowed := true }
def ChainLaterUptoSaid : Prop := chainLaterUptoRow.holds Try.pinned (OpenSpec.upto chainLaterSpec)

/-- 'dialtonelaw17.ChainNumbers', WHERE WHAT IT READS IS OF BULK AT MOST 1048576: true; the input reads as it did. -/
def chainNumbersUptoRow : OpenClaim := { program := "ytjllgiddmeiaoaa", sum := "7c2d6bd3cf75ba6300ca792ff8f61ca52ba6662f1b00be46146895ee04ff74fc", func := "dialtone/dialtonelaw17.ChainNumbers", spec := "chainNumbers", unfollowed := true, recurses := true, plainKeys := false, apart := false, narrowed := true }
def ChainNumbersUptoSaid : Prop := chainNumbersUptoRow.holds Try.pinned (OpenSpec.upto chainNumbersSpec)

/-- 'dialtonelaw17.ChainAlone', WHERE WHAT IT READS IS OF BULK AT MOST 1048576: true; the input reads as it did. -/
def chainAloneUptoRow : OpenClaim := { program := "ytjllgiddmeiaoaa", sum := "7c2d6bd3cf75ba6300ca792ff8f61ca52ba6662f1b00be46146895ee04ff74fc", func := "dialtone/dialtonelaw17.ChainAlone", spec := "chainAlone", unfollowed := true, recurses := true, plainKeys := false, apart := false, narrowed := true }
def ChainAloneUptoSaid : Prop := chainAloneUptoRow.holds Try.pinned (OpenSpec.upto chainAloneSpec)

end Rows
end Go.Proofs.Ytjllgiddmeiaoaa
