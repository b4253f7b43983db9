/-
  How the rows' arguments read: triples of integers.
-/
import Derived.Test.YteilkigdlkeiaaaR3
import Derived.Test.YteilkigdlkeiaaaRows
import Derived.Test.YteilkigdlkeiaaaLaw
import Derived.Test.YteilkigdlkeiaaaLaw2
namespace Go.Proofs.Yteilkigdlkeiaaa
open Go Go.ChangeShapes Go.WideShapes Go.ChangeAt Go.WideMaps Go.WideElems Go.RowKit Go.Dial Go.Dial.Lif
theorem own : ownKnob Try.prog.godebug = none := by kernel_rfl
theorem laidOut : laidOutB Try.prog = true := by kernel_rfl
section
variable {H : Type} {enc : TypeId × Value → H} {w : World} {base : Nat} {spare : Nat → Bool} {held : Bool}
theorem rd_tri : Rd enc Try.prog w base spare held 23 tcells Tri := fun m cs x h => by
  obtain ⟨ys, h1, h2, h3⟩ := rd_array (n := 3) (sz := 1) Try.underlying23 (by kernel_rfl) (by kernel_rfl) (rd_i64 Try.underlying3) m cs x h
  match ys, h2 with
  | [a, b, c], _ => exact ⟨(a, b, c), h1, h3 a (by simp), h3 b (by simp), h3 c (by simp)⟩
theorem undREv : Try.prog.underlying 54 = some (.struct (Try.prog.fieldsOf 54)) := by kernel_rfl
theorem undRLn : Try.prog.underlying 26 = some (.struct (Try.prog.fieldsOf 26)) := by kernel_rfl
theorem undRMl : Try.prog.underlying 28 = some (.struct (Try.prog.fieldsOf 28)) := by kernel_rfl
theorem rd_ev : Rd enc Try.prog w base spare held 54 evc (fun e => I64 e.k ∧ I64 e.a ∧ I64 e.h) :=
  rd_map (rd_ints (n := 3) (ti := 3) Try.underlying3 (by kernel_rfl) undREv (by kernel_rfl) (by kernel_rfl)) (fun ys h => by
    obtain ⟨a, b, c, rfl⟩ := list_of3 h.1
    exact ⟨⟨a, b, c⟩, rfl, h.2 a (by simp), h.2 b (by simp), h.2 c (by simp)⟩)
theorem rd_ln : Rd enc Try.prog w base spare held 26 (fun l : Ln => [.int .i64 l.s, .int .i64 l.h, .int .i64 l.e, .int .i64 l.t]) (fun l => I64 l.s ∧ I64 l.h ∧ I64 l.e ∧ I64 l.t) :=
  rd_map (rd_ints (n := 4) (ti := 3) Try.underlying3 (by kernel_rfl) undRLn (by kernel_rfl) (by kernel_rfl)) (fun ys h => by
    obtain ⟨a, b, c, d, rfl⟩ := list_of4 h.1
    exact ⟨⟨a, b, c, d⟩, rfl, h.2 a (by simp), h.2 b (by simp), h.2 c (by simp), h.2 d (by simp)⟩)
theorem rd_ml : Rd enc Try.prog w base spare held 28 (fun p : Int × Int => [.int .i64 p.1, .int .i64 p.2]) (fun p => I64 p.1 ∧ I64 p.2) :=
  rd_map (rd_ints (n := 2) (ti := 3) Try.underlying3 (by kernel_rfl) undRMl (by kernel_rfl) (by kernel_rfl)) (fun ys h => by
    obtain ⟨a, b, rfl⟩ := list2 h.1
    exact ⟨(a, b), rfl, h.2 a (by simp), h.2 b (by simp)⟩)
end
end Go.Proofs.Yteilkigdlkeiaaa
