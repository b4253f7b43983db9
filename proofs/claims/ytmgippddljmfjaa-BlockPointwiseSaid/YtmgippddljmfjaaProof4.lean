/-
  BlockPointwise: what Give, Take, Only, Overlay and Swap return says of each number what is specified, and is a map; no condition beyond the row's own.
-/
import Derived.Test.YtmgippddljmfjaaRows
import Derived.Test.YtmgippddljmfjaaLaw
import Derived.Test.YtmgippddljmfjaaStart
import Derived.Test.YtmgippddljmfjaaLaw4
namespace Go.Proofs.Ytmgippddljmfjaa
open Go Go.ChangeShapes Go.WideShapes Go.ChangeAt Go.WideMaps Go.WideElems Go.RowKit Go.Dial Go.Dial.Blk

set_option maxRecDepth 100000 in
theorem lifted4 (os : Os) (started : os.Started) (H : Type) (enc : TypeId × Value → H) :
    ReturnsInHanded {} Try.checked os 4 .any (Rows.blockPointwiseSpec.pre6 enc Try.prog Try.f4 [] false)
      (Rows.blockPointwiseSpec.post enc Try.prog Try.f4 false true false false) := by
  refine returnsInHanded_of_change (C := Try.checked) own started (by kernel_rfl) Try.func4
    (ChangeSpec.witness6 (enc := enc) (C := Try.checked) (os := os) false ⟨#[], #[.slice none 0 0, .slice none 0 0, .agg #[.int .i64 0, .int .i64 0], .int .i64 0, .int .i64 0, .int .i64 0, .int .i64 0], []⟩ 8 (by kernel_rfl) (by kernel_rfl) (by kernel_rfl) (by kernel_rfl)) ?_
  intro W base args ds gs before hval0 hW _ hsz
  have hval : ∀ (j : Nat) t v, Try.f4.params[j]? = some t → args[j]? = some v → Value.okWide Try.prog W .any base t v := hval0
  have hW' := hW
  obtain ⟨p, q, hA0, hV, rfl, hfz, hnd⟩ := hW
  have hA : DataW.TrodAll enc Try.prog W 0 (fun _ => true) true Try.f4.params.toList args.toList ds p := hA0
  rw [Try.params4] at hA hval
  obtain ⟨v0, vs0, d0, ds0, p0, q0, hargs, rfl, rfl, h0, r0⟩ := trodAll_cons hA
  obtain ⟨v1, vs1, d1, ds1, p1, q1, rfl, rfl, rfl, h1, r1⟩ := trodAll_cons r0
  obtain ⟨v2, vs2, d2, ds2, p2, q2, rfl, rfl, rfl, h2, r2⟩ := trodAll_cons r1
  obtain ⟨v3, vs3, d3, ds3, p3, q3, rfl, rfl, rfl, h3, r3⟩ := trodAll_cons r2
  obtain ⟨v4, vs4, d4, ds4, p4, q4, rfl, rfl, rfl, h4, r4⟩ := trodAll_cons r3
  obtain ⟨v5, vs5, d5, ds5, p5, q5, rfl, rfl, rfl, h5, r5⟩ := trodAll_cons r4
  obtain ⟨v6, vs6, d6, ds6, p6, q6, rfl, rfl, rfl, h6, r6⟩ := trodAll_cons r5
  obtain ⟨rfl, rfl, rfl⟩ := trodAll_nil r6
  obtain rfl : args = #[v0, v1, v2, v3, v4, v5, v6] := by cases args; simp_all
  obtain ⟨s0, rfl, a0, b0, c0, e0⟩ := in_slice Try.underlying22 (rd_slice Try.underlying22 (sz := 3) (by kernel_rfl) (by simp [tcells]) rd_tri) (hval 0 22 v0 rfl rfl) h0
  obtain ⟨s1, rfl, a1, b1, c1, e1⟩ := in_slice Try.underlying22 (rd_slice Try.underlying22 (sz := 3) (by kernel_rfl) (by simp [tcells]) rd_tri) (hval 1 22 v1 rfl rfl) h1
  obtain ⟨ys2, rfl, hl2, hq2⟩ := in_agg (rd_array (n := 2) (sz := 1) Try.underlying35 (by kernel_rfl) (by kernel_rfl) (rd_i64 Try.underlying3)) (.inr ⟨_, _, Try.underlying35⟩) (hval 2 35 v2 rfl rfl) h2
  obtain ⟨y2, z2, rfl⟩ : ∃ y z, ys2 = [y, z] := list2 hl2
  obtain ⟨x3, rfl, a3, b3⟩ := in_i64 Try.underlying3 (hval 3 3 v3 rfl rfl) h3
  obtain ⟨x4, rfl, a4, b4⟩ := in_i64 Try.underlying3 (hval 4 3 v4 rfl rfl) h4
  obtain ⟨x5, rfl, a5, b5⟩ := in_i64 Try.underlying3 (hval 5 3 v5 rfl rfl) h5
  obtain ⟨x6, rfl, a6, b6⟩ := in_i64 Try.underlying3 (hval 6 3 v6 rfl rfl) h6
  refine (law4_any s0.A s1.A s0.cap s1.cap s0.ys s1.ys y2 z2 x3 x4 x5 x6 W c0 c1 ⟨e0, e1, hq2 y2 (by simp), hq2 z2 (by simp), ⟨a3, b3⟩, ⟨a4, b4⟩, ⟨a5, b5⟩, ⟨a6, b6⟩, a0, a1, b0, b1⟩).mono fun e W2 ⟨he, hb⟩ => ⟨_, he, ?_⟩
  exact law_post hW' rfl rfl rfl rfl laidOut (by rw [Try.params4]; exact all_read (by kernel_rfl)) rfl Try.underlying4 hb

theorem holds4 : Rows.BlockPointwiseSaid :=
  OpenClaim.holds_of_wide 4 Try.f4 rfl rfl rfl rfl rfl rfl rfl ⟨rfl, rfl, rfl, rfl, rfl⟩ rfl rfl rfl rfl rfl (by kernel_rfl) Try.func4 (by kernel_rfl)
    (of_decide_eq_true (by kernel_rfl)) (by unfold Func.isWrapper; first | (rw [if_pos (by decide +kernel)]; kernel_rfl) | (rw [if_neg (by decide +kernel)]; exact ⟨rfl, rfl⟩))
    (fun os started H enc _ => lifted4 os started H enc)
end Go.Proofs.Ytmgippddljmfjaa
