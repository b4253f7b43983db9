/-
  How the rows' arguments read: triples of integers.
-/
import Derived.Test.YtmgippddljmfjaaWalk19
import Derived.Test.YtmgippddljmfjaaRows
import Derived.Test.YtmgippddljmfjaaLaw
namespace Go.Proofs.Ytmgippddljmfjaa
open Go Go.ChangeShapes Go.WideShapes Go.ChangeAt Go.WideMaps Go.WideElems Go.RowKit Go.Dial Go.Dial.Blk
theorem own : ownKnob Try.prog.godebug = none := by kernel_rfl
theorem laidOut : laidOutB Try.prog = true := by kernel_rfl
theorem rd_tri {H : Type} {enc : TypeId × Value → H} {w : World} {base : Nat} {spare : Nat → Bool} {held : Bool} : Rd enc Try.prog w base spare held 23 tcells Tri := fun m cs x h => by
  obtain ⟨ys, h1, h2, h3⟩ := rd_array (n := 3) (sz := 1) Try.underlying23 (by kernel_rfl) (by kernel_rfl) (rd_i64 Try.underlying3) m cs x h
  match ys, h2 with
  | [a, b, c], _ => exact ⟨(a, b, c), h1, h3 a (by simp), h3 b (by simp), h3 c (by simp)⟩
end Go.Proofs.Ytmgippddljmfjaa
