/-
  dialtonelaw14.example, few; the plain answers that sane asks for.
-/
import Derived.Test.YtjhakonpnopcnaaR5
set_option linter.unusedVariables false
set_option linter.unusedSimpArgs false
namespace Go.Proofs.Ytjhakonpnopcnaa
open Go Go.RowKit Go.Dial Go.Dial.Lif

def exV : List Ev := [⟨1, 100, 5⟩, ⟨3, 200, -1⟩, ⟨4, 300, -1⟩, ⟨5, 400, -1⟩, ⟨7, 2592400, -1⟩, ⟨1, 2592400, 6⟩]
/-- the example with its fifth event a second earlier -/
def exB : List Ev := [⟨1, 100, 5⟩, ⟨3, 200, -1⟩, ⟨4, 300, -1⟩, ⟨5, 400, -1⟩, ⟨7, 2592399, -1⟩, ⟨1, 2592400, 6⟩]
theorem example_any (w : World) : Calls Try.prog 27 #[] w fun e w' => e = .returned (.slice (some ⟨w.heap.size, 0, none⟩) 6 6) ∧ w.alloc (.cells #[.int .i64 1, .int .i64 100, .int .i64 5, .int .i64 3, .int .i64 200, .int .i64 (-1), .int .i64 4, .int .i64 300, .int .i64 (-1), .int .i64 5, .int .i64 400, .int .i64 (-1), .int .i64 7, .int .i64 2592400, .int .i64 (-1), .int .i64 1, .int .i64 2592400, .int .i64 6] 54) = w' := by
  go_enter Try.func27, Try.ntmps27
  go_wp2_with fail
  go_ret
  exact ⟨rfl, rfl⟩
/-- a whole block reads as a list -/
theorem HoldsG.of_block {α : Type} {f : α → List Value} {sz : Nat} {W : World} {g n : Nat} {l : List α} {t : TypeId} (hlen : ∀ y, (f y).length = sz) (hn : l.length = n) (hm : n ≤ maxLen) (h : W.heap[g]? = some (.cells (l.flatMap f).toArray t)) : HoldsG f sz W W.heap.size (.slice (some ⟨g, 0, none⟩) n n) l := by
  subst hn
  refine ⟨some ⟨g, 0, none⟩, l.length, rfl, Nat.le_refl _, hm, (flat_len hlen l), fun j u hu => ⟨_, rfl, heap_lt h, ?_⟩⟩
  have e : (⟨g, 0, none⟩ : Addr).add j = ⟨g, j, none⟩ := by unfold Addr.add; split <;> simp_all
  rw [e]; exact gcell h hu
theorem ex_holds {W : World} {g : Nat} (h : W.heap[g]? = some (.cells #[.int .i64 1, .int .i64 100, .int .i64 5, .int .i64 3, .int .i64 200, .int .i64 (-1), .int .i64 4, .int .i64 300, .int .i64 (-1), .int .i64 5, .int .i64 400, .int .i64 (-1), .int .i64 7, .int .i64 2592400, .int .i64 (-1), .int .i64 1, .int .i64 2592400, .int .i64 6] 54)) : HoldsG evc 3 W W.heap.size (.slice (some ⟨g, 0, none⟩) 6 6) exV :=
  HoldsG.of_block evc_len (l := exV) rfl (by unfold maxLen; decide) h
theorem exb_holds {W : World} {g : Nat} (h : W.heap[g]? = some (.cells #[.int .i64 1, .int .i64 100, .int .i64 5, .int .i64 3, .int .i64 200, .int .i64 (-1), .int .i64 4, .int .i64 300, .int .i64 (-1), .int .i64 5, .int .i64 400, .int .i64 (-1), .int .i64 7, .int .i64 2592399, .int .i64 (-1), .int .i64 1, .int .i64 2592400, .int .i64 6] 54)) : HoldsG evc 3 W W.heap.size (.slice (some ⟨g, 0, none⟩) 6 6) exB :=
  HoldsG.of_block evc_len (l := exB) rfl (by unfold maxLen; decide) h
theorem ex_at1 : atR exV 99 = (⟨0, -1, 0, 0⟩, 0) := by decide
theorem ex_at2 : atR exV 100 = (⟨1, 5, 1, 100⟩, 0) := by decide
theorem ex_at3 : atR exV 250 = (⟨2, 5, 1, 200⟩, 0) := by decide
theorem ex_at4 : atR exV 400 = (⟨3, 5, 1, 400⟩, 0) := by decide
theorem ex_at5 : atR exV 2592400 = (⟨1, 6, 2, 2592400⟩, 0) := by decide
theorem ex_run : runR exV = ((⟨1, 6, 2, 2592400⟩, 6), 0) := by decide
theorem exb_run : runR exB = ((⟨0, 0, 0, 0⟩, 4), 140) := by decide
theorem ex_keep : keepR exV 250 = ((1, 250), 0) := by decide
theorem ex_keep2 : keepR exV 99 = ((0, 0), 140) := by decide
theorem ex_fate1 : fateR exV 1 250 250 = ((2, -1), 0) := by decide
theorem ex_fate2 : fateR exV 1 250 300 = ((1, 5), 0) := by decide
theorem ex_fate3 : fateR exV 1 250 400 = ((2, -1), 0) := by decide
theorem ex_fate4 : fateR exV 1 250 2592400 = ((3, -1), 0) := by decide
theorem ex_stays : staysR exV = ([⟨5, 1, 100, 400⟩, ⟨6, 2, 2592400, 10000001⟩], 0) := by decide
theorem ex_enc : encR ⟨1, 100, 5⟩ = ([2, 200, 1, 10], 0) := by decide
theorem ex_dec : decR [2, 200, 1, 10] = (⟨1, 100, 5⟩, 0) := by decide
end Go.Proofs.Ytjhakonpnopcnaa
