/-
  BlockMatchesReference: all functions agree with the reference implementation; no condition beyond the row's own.
-/
import Derived.Test.YtmgippddljmfjaaRows
import Derived.Test.YtmgippddljmfjaaLaw
import Derived.Test.YtmgippddljmfjaaStart3
import Derived.Test.YtmgippddljmfjaaLaw3
namespace Go.Proofs.Ytmgippddljmfjaa
open Go Go.ChangeShapes Go.WideShapes Go.ChangeAt Go.WideMaps Go.WideElems Go.RowKit Go.Dial Go.Dial.Blk

set_option maxRecDepth 100000 in
theorem lifted3 (os : Os) (started : os.Started) (H : Type) (enc : TypeId × Value → H) :
    ReturnsInHanded {} Try.checked os 3 .any (Rows.blockMatchesReferenceSpec.pre6 enc Try.prog Try.f3 [] false)
      (Rows.blockMatchesReferenceSpec.post enc Try.prog Try.f3 false true false false) := by
  refine returnsInHanded_of_change (C := Try.checked) own started (by kernel_rfl) Try.func3
    (ChangeSpec.witness6 (enc := enc) (C := Try.checked) (os := os) false ⟨#[], #[.slice none 0 0, .slice none 0 0, .agg #[.int .i64 0, .int .i64 0, .int .i64 0], .slice none 0 0, .agg #[.int .i64 0, .int .i64 0], .int .i64 0, .int .i64 0, .int .i64 0, .int .i64 0], []⟩ 8 (by kernel_rfl) (by kernel_rfl) (by kernel_rfl) (by kernel_rfl)) ?_
  intro W base args ds gs before hval0 hW _ hsz
  have hval : ∀ (j : Nat) t v, Try.f3.params[j]? = some t → args[j]? = some v → Value.okWide Try.prog W .any base t v := hval0
  have hW' := hW
  obtain ⟨p, q, hA0, hV, rfl, hfz, hnd⟩ := hW
  have hA : DataW.TrodAll enc Try.prog W 0 (fun _ => true) true Try.f3.params.toList args.toList ds p := hA0
  rw [Try.params3] at hA hval
  obtain ⟨v0, vs0, d0, ds0, p0, q0, hargs, rfl, rfl, h0, r0⟩ := trodAll_cons hA
  obtain ⟨v1, vs1, d1, ds1, p1, q1, rfl, rfl, rfl, h1, r1⟩ := trodAll_cons r0
  obtain ⟨v2, vs2, d2, ds2, p2, q2, rfl, rfl, rfl, h2, r2⟩ := trodAll_cons r1
  obtain ⟨v3, vs3, d3, ds3, p3, q3, rfl, rfl, rfl, h3, r3⟩ := trodAll_cons r2
  obtain ⟨v4, vs4, d4, ds4, p4, q4, rfl, rfl, rfl, h4, r4⟩ := trodAll_cons r3
  obtain ⟨v5, vs5, d5, ds5, p5, q5, rfl, rfl, rfl, h5, r5⟩ := trodAll_cons r4
  obtain ⟨v6, vs6, d6, ds6, p6, q6, rfl, rfl, rfl, h6, r6⟩ := trodAll_cons r5
  obtain ⟨v7, vs7, d7, ds7, p7, q7, rfl, rfl, rfl, h7, r7⟩ := trodAll_cons r6
  obtain ⟨v8, vs8, d8, ds8, p8, q8, rfl, rfl, rfl, h8, r8⟩ := trodAll_cons r7
  obtain ⟨rfl, rfl, rfl⟩ := trodAll_nil r8
  obtain rfl : args = #[v0, v1, v2, v3, v4, v5, v6, v7, v8] := by cases args; simp_all
  obtain ⟨s0, rfl, a0, b0, c0, e0⟩ := in_slice Try.underlying22 (rd_slice Try.underlying22 (sz := 3) (by kernel_rfl) (by simp [tcells]) rd_tri) (hval 0 22 v0 rfl rfl) h0
  obtain ⟨s1, rfl, a1, b1, c1, e1⟩ := in_slice Try.underlying22 (rd_slice Try.underlying22 (sz := 3) (by kernel_rfl) (by simp [tcells]) rd_tri) (hval 1 22 v1 rfl rfl) h1
  obtain ⟨ys2, rfl, hl2, hq2⟩ := in_agg (rd_array (n := 3) (sz := 1) Try.underlying23 (by kernel_rfl) (by kernel_rfl) (rd_i64 Try.underlying3)) (.inr ⟨_, _, Try.underlying23⟩) (hval 2 23 v2 rfl rfl) h2
  obtain ⟨x2, y2, z2, rfl⟩ : ∃ x y z, ys2 = [x, y, z] := list_of3 hl2
  obtain ⟨s3, rfl, a3, b3, c3, e3⟩ := in_slice Try.underlying24 (rd_slice Try.underlying24 (sz := 3) (by kernel_rfl) (by simp [bcells]) rd_blk) (hval 3 24 v3 rfl rfl) h3
  obtain ⟨ys4, rfl, hl4, hq4⟩ := in_agg rd_rng (.inl ⟨_, undR26⟩) (hval 4 26 v4 rfl rfl) h4
  obtain ⟨y4, z4, rfl⟩ : ∃ y z, ys4 = [y, z] := list2 hl4
  obtain ⟨x5, rfl, a5, b5⟩ := in_i64 Try.underlying3 (hval 5 3 v5 rfl rfl) h5
  obtain ⟨x6, rfl, a6, b6⟩ := in_i64 Try.underlying3 (hval 6 3 v6 rfl rfl) h6
  obtain ⟨x7, rfl, a7, b7⟩ := in_i64 Try.underlying3 (hval 7 3 v7 rfl rfl) h7
  obtain ⟨x8, rfl, a8, b8⟩ := in_i64 Try.underlying3 (hval 8 3 v8 rfl rfl) h8
  refine (law3_any s0.A s1.A s3.A s0.cap s1.cap s3.cap s0.ys s1.ys s3.ys x2 y2 z2 y4 z4 x5 x6 x7 x8 W (Nat.le_trans a0 b0) (Nat.le_trans a1 b1) c0 c1 ⟨s3.A, s3.cap, rfl, a3, b3, c3⟩ ⟨e0, e1, hq2 x2 (by simp), hq2 y2 (by simp), hq2 z2 (by simp), hq4 y4 (by simp), hq4 z4 (by simp), ⟨a5, b5⟩, ⟨a6, b6⟩, ⟨a7, b7⟩, ⟨a8, b8⟩⟩).mono fun e W2 ⟨he, hb⟩ => ⟨_, he, ?_⟩
  exact law_post hW' rfl rfl rfl rfl laidOut (by rw [Try.params3]; exact all_read (by kernel_rfl)) rfl Try.underlying4 hb

theorem holds3 : Rows.BlockMatchesReferenceSaid :=
  OpenClaim.holds_of_wide 3 Try.f3 rfl rfl rfl rfl rfl rfl rfl ⟨rfl, rfl, rfl, rfl, rfl⟩ rfl rfl rfl rfl rfl (by kernel_rfl) Try.func3 (by kernel_rfl)
    (of_decide_eq_true (by kernel_rfl)) (by unfold Func.isWrapper; first | (rw [if_pos (by decide +kernel)]; kernel_rfl) | (rw [if_neg (by decide +kernel)]; exact ⟨rfl, rfl⟩))
    (fun os started H enc _ => lifted3 os started H enc)
end Go.Proofs.Ytmgippddljmfjaa
