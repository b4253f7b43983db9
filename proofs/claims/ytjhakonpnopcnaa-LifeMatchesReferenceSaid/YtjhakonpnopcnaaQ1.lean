/-
  What the plain functions of lives give.
-/
import Derived.Test.YtjhakonpnopcnaaD1
import Derived.Test.YtjhakonpnopcnaaLifM
set_option linter.unusedVariables false
set_option linter.unusedSimpArgs false
set_option maxRecDepth 100000
namespace Go.Proofs.Ytjhakonpnopcnaa
open Go Go.Sx Go.Dial.Lif
theorem ref14_Valid_v (n : Nat) (l : Ln) : ref14_Valid n l.s l.h l.e l.t = some (vldB l) := by
  unfold ref14_Valid ref14_Valid_1 vldB Vld
  grind
theorem life_Valid_v (n : Nat) (l : Ln) : life_Valid n l.s l.h l.e l.t = some (vldB l) := by
  unfold life_Valid life_Valid_1 vldB Vld
  grind
theorem ref14_Formed_v (n : Nat) (e : Ev) : ref14_Formed n e.k e.a e.h = some (frmB e) := by
  unfold ref14_Formed ref14_Formed_1 frmB Frm Named
  grind
theorem ref14_possible_v (n : Nat) (l : Ln) (e : Ev) (hl : Vld l) (he : Frm e) : ref14_possible n l.s l.h l.e l.t e.k e.a e.h = some (decide (Pos l e)) := by
  unfold Vld at hl
  unfold Frm Named at he
  by_cases hp : Pos l e <;> simp only [hp, decide_true, decide_false] <;> unfold Pos at hp <;> unfold ref14_possible ref14_possible_1 <;> grind
abbrev stepT (l : Ln) (e : Ev) : Int × Int × Int × Int × Int := ((stepR l e).1.s, (stepR l e).1.h, (stepR l e).1.e, (stepR l e).1.t, (stepR l e).2)
theorem ref14_Step_v (n : Nat) (l : Ln) (e : Ev) : ref14_Step n l.s l.h l.e l.t e.k e.a e.h = some (stepT l e) := by
  unfold ref14_Step ref14_Step_1 stepT
  rw [ref14_Valid_v, ref14_Formed_v]
  by_cases h1 : Vld l
  · by_cases h2 : Frm e
    · rw [ref14_possible_v n l e h1 h2]
      by_cases h3 : Pos l e
      · rw [stepR_ok ⟨h1, h2, h3⟩]
        simp only [vldB, frmB, h1, h2, h3, decide_true, Option.bind_some, Bool.not_true, cond_false]
        unfold nxt
        unfold Vld at h1
        unfold Frm Named at h2
        unfold Pos at h3
        grind
      · rw [stepR_no (fun h => h3 h.2.2)]
        simp [vldB, frmB, h1, h2, h3, zero]
    · rw [stepR_no (fun h => h2 h.2.1)]
      simp [vldB, frmB, h1, h2, zero]
  · rw [stepR_no (fun h => h1 h.1)]
    simp [vldB, h1, zero]
theorem kinds {k : Int} (h1 : 1 ≤ k) (h2 : k ≤ 7) : k = 1 ∨ k = 2 ∨ k = 3 ∨ k = 4 ∨ k = 5 ∨ k = 6 ∨ k = 7 := by omega
theorem states {s : Int} (h1 : 0 ≤ s) (h2 : s ≤ 3) : s = 0 ∨ s = 1 ∨ s = 2 ∨ s = 3 := by omega
theorem life_Formed_v (n : Nat) (e : Ev) : life_Formed n e.k e.a e.h = some (frmB e) := by
  obtain ⟨k, a, h⟩ := e
  by_cases hk : 1 ≤ k ∧ k ≤ 7
  · unfold life_Formed life_Formed_1 frmB Frm Named
    rcases kinds hk.1 hk.2 with rfl | rfl | rfl | rfl | rfl | rfl | rfl <;> simp [cB, cA] <;> grind
  · unfold life_Formed life_Formed_1 frmB Frm Named
    grind
theorem bit1_0 : IOp.f .and (IOp.f .shr 1 0) 1 = 1 := by decide +kernel
theorem bit1_1 : IOp.f .and (IOp.f .shr 1 1) 1 = 0 := by decide +kernel
theorem bit1_2 : IOp.f .and (IOp.f .shr 1 2) 1 = 0 := by decide +kernel
theorem bit1_3 : IOp.f .and (IOp.f .shr 1 3) 1 = 0 := by decide +kernel
theorem bit2_0 : IOp.f .and (IOp.f .shr 2 0) 1 = 0 := by decide +kernel
theorem bit2_1 : IOp.f .and (IOp.f .shr 2 1) 1 = 1 := by decide +kernel
theorem bit2_2 : IOp.f .and (IOp.f .shr 2 2) 1 = 0 := by decide +kernel
theorem bit2_3 : IOp.f .and (IOp.f .shr 2 3) 1 = 0 := by decide +kernel
theorem bit4_0 : IOp.f .and (IOp.f .shr 4 0) 1 = 0 := by decide +kernel
theorem bit4_1 : IOp.f .and (IOp.f .shr 4 1) 1 = 0 := by decide +kernel
theorem bit4_2 : IOp.f .and (IOp.f .shr 4 2) 1 = 1 := by decide +kernel
theorem bit4_3 : IOp.f .and (IOp.f .shr 4 3) 1 = 0 := by decide +kernel
theorem bit6_0 : IOp.f .and (IOp.f .shr 6 0) 1 = 0 := by decide +kernel
theorem bit6_1 : IOp.f .and (IOp.f .shr 6 1) 1 = 1 := by decide +kernel
theorem bit6_2 : IOp.f .and (IOp.f .shr 6 2) 1 = 1 := by decide +kernel
theorem bit6_3 : IOp.f .and (IOp.f .shr 6 3) 1 = 0 := by decide +kernel
theorem bit8_0 : IOp.f .and (IOp.f .shr 8 0) 1 = 0 := by decide +kernel
theorem bit8_1 : IOp.f .and (IOp.f .shr 8 1) 1 = 0 := by decide +kernel
theorem bit8_2 : IOp.f .and (IOp.f .shr 8 2) 1 = 0 := by decide +kernel
theorem bit8_3 : IOp.f .and (IOp.f .shr 8 3) 1 = 1 := by decide +kernel
theorem life_Step_4_v (n : Nat) (l : Ln) (e : Ev) (h1 : Vld l) (h2 : Frm e) : life_Step_4 n l.s l.h l.e l.t e.k e.a e.h = some (stepT l e) := by
  obtain ⟨k, a, h⟩ := e
  obtain ⟨s, g, p, t⟩ := l
  unfold stepT stepR Ok Pos
  simp only [h1, h2, true_and]
  unfold Vld at h1
  unfold Frm Named at h2
  unfold nxt zero life_Step_4 life_Step_5 life_Step_6
  simp only at h1 h2 ⊢
  rcases kinds h2.1 h2.2.1 with rfl | rfl | rfl | rfl | rfl | rfl | rfl <;> rcases states h1.1 h1.2.1 with rfl | rfl | rfl | rfl <;>
    simp [cI, cB, cA, bit1_0, bit1_1, bit1_2, bit1_3, bit2_0, bit2_1, bit2_2, bit2_3, bit4_0, bit4_1, bit4_2, bit4_3, bit6_0, bit6_1, bit6_2, bit6_3, bit8_0, bit8_1, bit8_2, bit8_3] <;> grind
theorem life_Step_v (n : Nat) (l : Ln) (e : Ev) : life_Step n l.s l.h l.e l.t e.k e.a e.h = some (stepT l e) := by
  unfold life_Step life_Step_1 life_Step_2 life_Step_3
  rw [life_Valid_v, life_Formed_v]
  by_cases h1 : Vld l
  · by_cases h2 : Frm e
    · simp only [vldB, frmB, h1, h2, decide_true, Option.bind_some, Bool.not_true, cond_false]
      exact life_Step_4_v n l e h1 h2
    · unfold stepT
      rw [stepR_no (fun h => h2 h.2.1)]
      simp [vldB, frmB, h1, h2, zero]
  · unfold stepT
    rw [stepR_no (fun h => h1 h.1)]
    simp [vldB, h1, zero]
end Go.Proofs.Ytjhakonpnopcnaa
