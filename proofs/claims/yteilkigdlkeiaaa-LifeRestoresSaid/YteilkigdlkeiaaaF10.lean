/-
  The contract of the law LifeRestores: it returns true.
-/
import Derived.Test.YteilkigdlkeiaaaS10
namespace Go.Proofs.Yteilkigdlkeiaaa
open Go Go.RowKit Go.Dial Go.Dial.Lif Go.Sx

theorem law10_any (Ax : Option Addr) (cx : Nat) (xs : List T3) (t u v : Int) (w : World) (h1 : xs.length ≤ cx) (h2 : cx ≤ maxLen) (hS : Span w w.heap.size 3 Ax xs.length (xs.flatMap tcells))
    (hb : (∀ x ∈ xs, Tri x) ∧ I64 t ∧ I64 u ∧ I64 v) :
    Calls Try.prog 10 #[.slice Ax xs.length cx, .int .i64 t, .int .i64 u, .int .i64 v] w fun e w' => e = .returned (.bool true) ∧ Below w.heap.size w w' := by
  obtain ⟨ha, ht, hu, hv⟩ := hb
  refine con_calls (con10 xs t u v ha ht hu hv) rfl ⟨rfl, fun i y x g1 g2 => ?_⟩
  match i, g1, g2 with
  | 0, g1, g2 =>
    simp at g1 g2
    subst g1; subst g2
    exact den_of_span (f := tcells) (fun _ => rfl) (fun _ => rfl) h1 h2 (by decide) hS
  | 1, g1, g2 => simp at g1 g2; subst g1; subst g2; exact .int t
  | 2, g1, g2 => simp at g1 g2; subst g1; subst g2; exact .int u
  | 3, g1, g2 => simp at g1 g2; subst g1; subst g2; exact .int v
  | n + 4, g1, _ => simp at g1
end Go.Proofs.Yteilkigdlkeiaaa
