/-
  LifeDecodes: Decode undoes Encode, and no encoding is the beginning of another one; no condition beyond the row's own.
-/
import Derived.Test.YteilkigdlkeiaaaRows
import Derived.Test.YteilkigdlkeiaaaLaw
import Derived.Test.YteilkigdlkeiaaaStart12
import Derived.Test.YteilkigdlkeiaaaF12
namespace Go.Proofs.Yteilkigdlkeiaaa
open Go Go.ChangeShapes Go.WideShapes Go.ChangeAt Go.WideMaps Go.WideElems Go.RowKit Go.Dial Go.Dial.Lif

set_option maxRecDepth 100000 in
theorem lifted12 (os : Os) (started : os.Started) (H : Type) (enc : TypeId × Value → H) :
    ReturnsInHanded {} Try.checked os 12 .any (Rows.lifeDecodesSpec.pre6 enc Try.prog Try.f12 [] false)
      (Rows.lifeDecodesSpec.post enc Try.prog Try.f12 false true false false) := by
  refine returnsInHanded_of_change (C := Try.checked) own started (by kernel_rfl) Try.func12
    (ChangeSpec.witness6 (enc := enc) (C := Try.checked) (os := os) false ⟨#[], #[.slice none 0 0, .int .i64 0, .int .i64 0, .string ⟨#[]⟩, .int .i64 0, .int .u8 0], []⟩ 8 (by kernel_rfl) (by kernel_rfl) (by kernel_rfl) (by kernel_rfl)) ?_
  intro W base args ds gs before hval0 hW _ hsz
  have hval : ∀ (j : Nat) t v, Try.f12.params[j]? = some t → args[j]? = some v → Value.okWide Try.prog W .any base t v := hval0
  have hW' := hW
  obtain ⟨p, q, hA0, hV, rfl, hfz, hnd⟩ := hW
  have hA : DataW.TrodAll enc Try.prog W 0 (fun _ => true) true Try.f12.params.toList args.toList ds p := hA0
  rw [Try.params12] at hA hval
  obtain ⟨v0, vs0, d0, ds0, p0, q0, hargs, rfl, rfl, h0, r0⟩ := trodAll_cons hA
  obtain ⟨v1, vs1, d1, ds1, p1, q1, rfl, rfl, rfl, h1, r1⟩ := trodAll_cons r0
  obtain ⟨v2, vs2, d2, ds2, p2, q2, rfl, rfl, rfl, h2, r2⟩ := trodAll_cons r1
  obtain ⟨v3, vs3, d3, ds3, p3, q3, rfl, rfl, rfl, h3, r3⟩ := trodAll_cons r2
  obtain ⟨v4, vs4, d4, ds4, p4, q4, rfl, rfl, rfl, h4, r4⟩ := trodAll_cons r3
  obtain ⟨v5, vs5, d5, ds5, p5, q5, rfl, rfl, rfl, h5, r5⟩ := trodAll_cons r4
  obtain ⟨rfl, rfl, rfl⟩ := trodAll_nil r5
  obtain rfl : args = #[v0, v1, v2, v3, v4, v5] := by cases args; simp_all
  obtain ⟨s0, rfl, a0, b0, c0, e0⟩ := in_slice Try.underlying22 (rd_slice Try.underlying22 (sz := 3) (by kernel_rfl) (by simp [tcells]) rd_tri) (hval 0 22 v0 rfl rfl) h0
  obtain ⟨x1, rfl, a1, b1⟩ := in_i64 Try.underlying3 (hval 1 3 v1 rfl rfl) h1
  obtain ⟨x2, rfl, a2, b2⟩ := in_i64 Try.underlying3 (hval 2 3 v2 rfl rfl) h2
  obtain ⟨x3, rfl, a3⟩ := in_string Try.underlying9 (hval 3 9 v3 rfl rfl) h3
  obtain ⟨x4, rfl, a4, b4⟩ := in_i64 Try.underlying3 (hval 4 3 v4 rfl rfl) h4
  obtain ⟨x5, rfl, a5⟩ := in_u8 Try.underlying5 (hval 5 5 v5 rfl rfl) h5
  refine (law12_any s0.A s0.cap s0.ys x1 x2 x4 x3 x5 W (Nat.le_trans a0 b0) c0 ⟨e0, ⟨a1, b1⟩, ⟨a2, b2⟩, ⟨a4, b4⟩, a3, a5⟩).mono fun e W2 ⟨he, hb⟩ => ⟨_, he, ?_⟩
  exact law_post hW' rfl rfl rfl rfl laidOut (by rw [Try.params12]; exact all_read (by kernel_rfl)) rfl Try.underlying4 hb

theorem holds12 : Rows.LifeDecodesSaid :=
  OpenClaim.holds_of_wide 12 Try.f12 rfl rfl rfl rfl rfl rfl rfl ⟨rfl, rfl, rfl, rfl, rfl⟩ rfl rfl rfl rfl rfl (by kernel_rfl) Try.func12 (by kernel_rfl)
    (of_decide_eq_true (by kernel_rfl)) (by unfold Func.isWrapper; first | (rw [if_pos (by decide +kernel)]; kernel_rfl) | (rw [if_neg (by decide +kernel)]; exact ⟨rfl, rfl⟩))
    (fun os started H enc _ => lifted12 os started H enc)
end Go.Proofs.Yteilkigdlkeiaaa
