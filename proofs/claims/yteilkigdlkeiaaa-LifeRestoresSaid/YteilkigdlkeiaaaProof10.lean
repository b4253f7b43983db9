/-
  LifeRestores: the last holder can take a number back with all mail, until the quarantine has expired; no condition beyond the row's own.
-/
import Derived.Test.YteilkigdlkeiaaaRows
import Derived.Test.YteilkigdlkeiaaaLaw
import Derived.Test.YteilkigdlkeiaaaStart
import Derived.Test.YteilkigdlkeiaaaF10
namespace Go.Proofs.Yteilkigdlkeiaaa
open Go Go.ChangeShapes Go.WideShapes Go.ChangeAt Go.WideMaps Go.WideElems Go.RowKit Go.Dial Go.Dial.Lif

set_option maxRecDepth 100000 in
theorem lifted10 (os : Os) (started : os.Started) (H : Type) (enc : TypeId × Value → H) :
    ReturnsInHanded {} Try.checked os 10 .any (Rows.lifeRestoresSpec.pre6 enc Try.prog Try.f10 [] false)
      (Rows.lifeRestoresSpec.post enc Try.prog Try.f10 false true false false) := by
  refine returnsInHanded_of_change (C := Try.checked) own started (by kernel_rfl) Try.func10
    (ChangeSpec.witness6 (enc := enc) (C := Try.checked) (os := os) false ⟨#[], #[.slice none 0 0, .int .i64 0, .int .i64 0, .int .i64 0], []⟩ 8 (by kernel_rfl) (by kernel_rfl) (by kernel_rfl) (by kernel_rfl)) ?_
  intro W base args ds gs before hval0 hW _ hsz
  have hval : ∀ (j : Nat) t v, Try.f10.params[j]? = some t → args[j]? = some v → Value.okWide Try.prog W .any base t v := hval0
  have hW' := hW
  obtain ⟨p, q, hA0, hV, rfl, hfz, hnd⟩ := hW
  have hA : DataW.TrodAll enc Try.prog W 0 (fun _ => true) true Try.f10.params.toList args.toList ds p := hA0
  rw [Try.params10] at hA hval
  obtain ⟨v0, vs0, d0, ds0, p0, q0, hargs, rfl, rfl, h0, r0⟩ := trodAll_cons hA
  obtain ⟨v1, vs1, d1, ds1, p1, q1, rfl, rfl, rfl, h1, r1⟩ := trodAll_cons r0
  obtain ⟨v2, vs2, d2, ds2, p2, q2, rfl, rfl, rfl, h2, r2⟩ := trodAll_cons r1
  obtain ⟨v3, vs3, d3, ds3, p3, q3, rfl, rfl, rfl, h3, r3⟩ := trodAll_cons r2
  obtain ⟨rfl, rfl, rfl⟩ := trodAll_nil r3
  obtain rfl : args = #[v0, v1, v2, v3] := by cases args; simp_all
  obtain ⟨s0, rfl, a0, b0, c0, e0⟩ := in_slice Try.underlying22 (rd_slice Try.underlying22 (sz := 3) (by kernel_rfl) (by simp [tcells]) rd_tri) (hval 0 22 v0 rfl rfl) h0
  obtain ⟨x1, rfl, a1, b1⟩ := in_i64 Try.underlying3 (hval 1 3 v1 rfl rfl) h1
  obtain ⟨x2, rfl, a2, b2⟩ := in_i64 Try.underlying3 (hval 2 3 v2 rfl rfl) h2
  obtain ⟨x3, rfl, a3, b3⟩ := in_i64 Try.underlying3 (hval 3 3 v3 rfl rfl) h3
  refine (law10_any s0.A s0.cap s0.ys x1 x2 x3 W a0 b0 c0 ⟨e0, ⟨a1, b1⟩, ⟨a2, b2⟩, ⟨a3, b3⟩⟩).mono fun e W2 ⟨he, hb⟩ => ⟨_, he, ?_⟩
  exact law_post hW' rfl rfl rfl rfl laidOut (by rw [Try.params10]; exact all_read (by kernel_rfl)) rfl Try.underlying4 hb

theorem holds10 : Rows.LifeRestoresSaid :=
  OpenClaim.holds_of_wide 10 Try.f10 rfl rfl rfl rfl rfl rfl rfl ⟨rfl, rfl, rfl, rfl, rfl⟩ rfl rfl rfl rfl rfl (by kernel_rfl) Try.func10 (by kernel_rfl)
    (of_decide_eq_true (by kernel_rfl)) (by unfold Func.isWrapper; first | (rw [if_pos (by decide +kernel)]; kernel_rfl) | (rw [if_neg (by decide +kernel)]; exact ⟨rfl, rfl⟩))
    (fun os started H enc _ => lifted10 os started H enc)
end Go.Proofs.Yteilkigdlkeiaaa
