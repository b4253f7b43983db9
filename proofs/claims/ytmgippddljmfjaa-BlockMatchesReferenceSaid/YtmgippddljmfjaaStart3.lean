/-
  How the rows' arguments read: lists of blocks, ranges.
-/
import Derived.Test.YtmgippddljmfjaaStart
import Derived.Test.YtmgippddljmfjaaLaw2
namespace Go.Proofs.Ytmgippddljmfjaa
open Go Go.ChangeShapes Go.WideShapes Go.ChangeAt Go.WideMaps Go.WideElems Go.RowKit Go.Dial Go.Dial.Blk
theorem undR26 : Try.prog.underlying 26 = some (.struct (Try.prog.fieldsOf 26)) := by kernel_rfl
theorem undR53 : Try.prog.underlying 53 = some (.struct (Try.prog.fieldsOf 53)) := by kernel_rfl
section
variable {H : Type} {enc : TypeId × Value → H} {w : World} {base : Nat} {spare : Nat → Bool} {held : Bool}
theorem rd_rng : Rd enc Try.prog w base spare held 26 (fun ys : List Int => ys.map (Value.int .i64)) (fun ys => ys.length = 2 ∧ ∀ y ∈ ys, -9223372036854775808 ≤ y ∧ y ≤ 9223372036854775807) :=
  rd_ints (ti := 3) Try.underlying3 (by kernel_rfl) undR26 (by kernel_rfl) (by kernel_rfl)
theorem rd_blk : Rd enc Try.prog w base spare held 53 bcells (fun _ => True) :=
  rd_map (rd_two (t1 := 26) (t2 := 3) (k1 := 2) (k2 := 1) undR53 (by kernel_rfl) (by kernel_rfl) (by kernel_rfl) (by kernel_rfl) (by kernel_rfl) rd_rng (rd_i64 Try.underlying3)) (fun p h => by
    obtain ⟨ys, n⟩ := p
    obtain ⟨a, b, rfl⟩ := list2 h.1.1
    exact ⟨⟨a, b, n⟩, rfl, trivial⟩)
end
end Go.Proofs.Ytmgippddljmfjaa
