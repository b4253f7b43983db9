/-
  MergeSuccessions: who is not alive any more is never alive again; successors follow each other; who is alive and not split is its own successor; no condition beyond the row's own.
-/
import Derived.Test.YtgckmifmjiklmaaGreatRows
import Derived.Test.YtgckmifmjiklmaaGreatLaw
import Derived.Test.YtgckmifmjiklmaaGreatL4
namespace Go.Proofs.YtgckmifmjiklmaaGreat
open Go Go.ChangeShapes Go.WideShapes Go.ChangeAt Go.WideMaps Go.WideElems Go.RowKit Go.Dial Go.Sx
theorem own4 : ownKnob Tryz.prog.godebug = none := by kernel_rfl
theorem laidOut4 : laidOutB Tryz.prog = true := by kernel_rfl
set_option maxRecDepth 100000 in
theorem lifted4 (os : Os) (started : os.Started) (H : Type) (enc : TypeId × Value → H) :
    ReturnsInHanded {} Tryz.checked os 4 .any (Rows.mergeSuccessionsSpec.pre6 enc Tryz.prog Tryz.f4 [] false)
      (Rows.mergeSuccessionsSpec.post enc Tryz.prog Tryz.f4 false true false false) := by
  refine returnsInHanded_of_change (C := Tryz.checked) own4 started (by kernel_rfl) Tryz.func4
    (ChangeSpec.witness6 (enc := enc) (C := Tryz.checked) (os := os) false ⟨#[], #[.agg #[.int .i64 0, .int .i64 0, .int .i64 0], .slice none 0 0, .slice none 0 0, .int .i64 0, .int .i64 0, .int .i64 0, .int .i64 0], []⟩ 8 (by kernel_rfl) (by kernel_rfl) (by kernel_rfl) (by kernel_rfl)) ?_
  intro W base args ds gs before hval0 hW _ hsz
  have hW' := hW
  obtain ⟨p, q, hA0, hV, rfl, hfz, hnd⟩ := hW
  have hA : DataW.TrodAll enc Tryz.prog W 0 (fun _ => true) true Tryz.f4.params.toList args.toList ds p := hA0
  obtain ⟨d0, d1, d2, d3, d4, d5, d6, rfl⟩ : ∃ d0 d1 d2 d3 d4 d5 d6, ds = [d0, d1, d2, d3, d4, d5, d6] := by
    match ds, trodAll_len _ hA with
    | [d0, d1, d2, d3, d4, d5, d6], _ => exact ⟨d0, d1, d2, d3, d4, d5, d6, rfl⟩
  have hc := calls_true (F := law42_MergeSuccessions_t) law42_MergeSuccessions_ok (ts := Tryz.f4.params.toList) (vs := args.toList) (by kernel_rfl) hA (fun j t v h1 h2 => hval0 j t v (by simpa using h1) (by simpa using h2)) law42_MergeSuccessions_law
  rw [Array.toArray_toList] at hc
  refine hc.mono fun e W2 ⟨he, hb⟩ => ⟨_, he, ?_⟩
  exact law_post hW' rfl rfl rfl rfl laidOut4 (by rw [Tryz.params4]; exact all_read (by kernel_rfl)) rfl Tryz.underlying4 hb

theorem holds4 : Rows.MergeSuccessionsSaid :=
  OpenClaim.holds_of_wide 4 Tryz.f4 rfl rfl rfl rfl rfl rfl rfl ⟨rfl, rfl, rfl, rfl, rfl⟩ rfl rfl rfl rfl rfl (by kernel_rfl) Tryz.func4 (by kernel_rfl)
    (of_decide_eq_true (by kernel_rfl)) (by unfold Func.isWrapper; first | (rw [if_pos (by decide +kernel)]; kernel_rfl) | (rw [if_neg (by decide +kernel)]; exact ⟨rfl, rfl⟩))
    (fun os started H enc _ => lifted4 os started H enc)
end Go.Proofs.YtgckmifmjiklmaaGreat
