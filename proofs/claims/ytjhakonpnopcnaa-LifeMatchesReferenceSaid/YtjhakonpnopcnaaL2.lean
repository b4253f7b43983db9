/-
  life: rules, Formed, Step.
-/
import Derived.Test.YtjhakonpnopcnaaL1
import Derived.Deep.RegionHeld3
import Derived.Deep.RegionWith
import Derived.Deep.DeepCutAuto
set_option linter.unusedVariables false
set_option linter.unusedSimpArgs false
namespace Go.Proofs.Ytjhakonpnopcnaa
open Go Go.RowKit Go.Dial Go.Dial.Lif

theorem lrules_any (w : World) : Calls Try.prog 41 #[] w fun e w' => e = .returned (.slice (some ⟨w.heap.size, 0, none⟩) 8 8) ∧
    w.alloc (.cells #[.int .i64 0, .int .i64 0, .bool false, .int .i64 1, .int .i64 1, .bool true, .int .i64 2, .int .i64 1, .bool true, .int .i64 2, .int .i64 2, .bool false, .int .i64 4, .int .i64 1, .bool false, .int .i64 6, .int .i64 3, .bool false, .int .i64 8, .int .i64 1, .bool false, .int .i64 8, .int .i64 0, .bool false] 78) = w' := by
  go_enter Try.func41, Try.ntmps41
  go_wp2_with fail
  go_ret
  exact ⟨rfl, rfl⟩
set_option maxHeartbeats 1600000 in
theorem lformed_any (x : Ev) (w : World) : Calls Try.prog 25 #[evA x] w fun e w' => e = .returned (.bool (frmB x)) ∧ Below w.heap.size w w' := by
  obtain ⟨k, a, h⟩ := x
  unfold evA
  by_cases hk : 1 ≤ k ∧ k ≤ 7 ∧ 0 ≤ a ∧ a ≤ 10000000
  · have i1 := Lib.hid (show inB k 1 7 = true by rw [inB_iff]; omega)
    have i2 := Lib.hid (show inB a 0 10000000 = true by rw [inB_iff]; omega)
    obtain ⟨hk1, hk2, ha1, ha2⟩ := hk
    have hc : k = 1 ∨ k = 2 ∨ k = 3 ∨ k = 4 ∨ k = 5 ∨ k = 6 ∨ k = 7 := by omega
    obtain ⟨W0, hW0⟩ : ∃ W0, W0 = w.alloc (.cells #[.int .i64 k, .int .i64 a, .int .i64 h] 54) := ⟨_, rfl⟩
    have cc : W0.heap[w.heap.size]? = some (.cells #[.int .i64 k, .int .i64 a, .int .i64 h] 54) := by rw [hW0]; exact newcell _ _
    have c0 := gcell (cs := [.int .i64 k, .int .i64 a, .int .i64 h]) cc (i := 0) rfl
    have c1 := gcell (cs := [.int .i64 k, .int .i64 a, .int .i64 h]) cc (i := 1) rfl
    have c2 := gcell (cs := [.int .i64 k, .int .i64 a, .int .i64 h]) cc (i := 2) rfl
    have hlt : w.heap.size < W0.heap.size := by rw [hW0]; simp
    have HB := Lib.hid (show Below w.heap.size w W0 by rw [hW0]; exact below_new _ _)
    have HW := Lib.hid hW0
    have l0 := World.new_ne W0 ⟨w.heap.size, 0, none⟩ c0
    clear hk1 hk2 hW0 cc
    rcases hc with rfl | rfl | rfl | rfl | rfl | rfl | rfl
    · go_enter Try.func25, Try.ntmps25
      go_wp2_with fail
      rw [← HW.out]
      go_upto_region 3 with (go_at_call 38; refine (lisIn_any _ _ _ _).mono ?_; rintro e w1 ⟨rfl, rfl⟩; first | rw [i1.out] | rw [i2.out])
      go_region_with ((go_at_call 41; refine (lrules_any _).mono ?_; rintro e w2 ⟨rfl, rfl⟩))
      all_goals
        go_wp2_with (go_at_call 38; refine (lisIn_any _ _ _ _).mono ?_; rintro e w1 ⟨rfl, rfl⟩)
        go_ret
        refine ⟨ret_bool ?_, ?_⟩
        · rw [Bool.eq_iff_iff, frmB_iff]; simp [Frm, inB, Named] <;> omega
        · first | exact below_then HB.out ((below_new _ _).drew) | exact below_then HB.out ((Below.refl _ W0).drew.alloc (Nat.le_refl _) _)
    · go_enter Try.func25, Try.ntmps25
      go_wp2_with fail
      rw [← HW.out]
      go_upto_region 3 with (go_at_call 38; refine (lisIn_any _ _ _ _).mono ?_; rintro e w1 ⟨rfl, rfl⟩; first | rw [i1.out] | rw [i2.out])
      go_region_with ((go_at_call 41; refine (lrules_any _).mono ?_; rintro e w2 ⟨rfl, rfl⟩))
      all_goals
        go_wp2_with (go_at_call 38; refine (lisIn_any _ _ _ _).mono ?_; rintro e w1 ⟨rfl, rfl⟩)
        go_ret
        refine ⟨ret_bool ?_, ?_⟩
        · rw [Bool.eq_iff_iff, frmB_iff]; simp [Frm, inB, Named] <;> omega
        · first | exact below_then HB.out ((below_new _ _).drew) | exact below_then HB.out ((Below.refl _ W0).drew.alloc (Nat.le_refl _) _)
    · go_enter Try.func25, Try.ntmps25
      go_wp2_with fail
      rw [← HW.out]
      go_upto_region 3 with (go_at_call 38; refine (lisIn_any _ _ _ _).mono ?_; rintro e w1 ⟨rfl, rfl⟩; first | rw [i1.out] | rw [i2.out])
      go_region_with ((go_at_call 41; refine (lrules_any _).mono ?_; rintro e w2 ⟨rfl, rfl⟩))
      all_goals
        go_wp2_with (go_at_call 38; refine (lisIn_any _ _ _ _).mono ?_; rintro e w1 ⟨rfl, rfl⟩)
        go_ret
        refine ⟨ret_bool ?_, ?_⟩
        · rw [Bool.eq_iff_iff, frmB_iff]; simp [Frm, inB, Named] <;> omega
        · first | exact below_then HB.out ((below_new _ _).drew) | exact below_then HB.out ((Below.refl _ W0).drew.alloc (Nat.le_refl _) _)
    · go_enter Try.func25, Try.ntmps25
      go_wp2_with fail
      rw [← HW.out]
      go_upto_region 3 with (go_at_call 38; refine (lisIn_any _ _ _ _).mono ?_; rintro e w1 ⟨rfl, rfl⟩; first | rw [i1.out] | rw [i2.out])
      go_region_with ((go_at_call 41; refine (lrules_any _).mono ?_; rintro e w2 ⟨rfl, rfl⟩))
      all_goals
        go_wp2_with (go_at_call 38; refine (lisIn_any _ _ _ _).mono ?_; rintro e w1 ⟨rfl, rfl⟩)
        go_ret
        refine ⟨ret_bool ?_, ?_⟩
        · rw [Bool.eq_iff_iff, frmB_iff]; simp [Frm, inB, Named] <;> omega
        · first | exact below_then HB.out ((below_new _ _).drew) | exact below_then HB.out ((Below.refl _ W0).drew.alloc (Nat.le_refl _) _)
    · go_enter Try.func25, Try.ntmps25
      go_wp2_with fail
      rw [← HW.out]
      go_upto_region 3 with (go_at_call 38; refine (lisIn_any _ _ _ _).mono ?_; rintro e w1 ⟨rfl, rfl⟩; first | rw [i1.out] | rw [i2.out])
      go_region_with ((go_at_call 41; refine (lrules_any _).mono ?_; rintro e w2 ⟨rfl, rfl⟩))
      all_goals
        go_wp2_with (go_at_call 38; refine (lisIn_any _ _ _ _).mono ?_; rintro e w1 ⟨rfl, rfl⟩)
        go_ret
        refine ⟨ret_bool ?_, ?_⟩
        · rw [Bool.eq_iff_iff, frmB_iff]; simp [Frm, inB, Named] <;> omega
        · first | exact below_then HB.out ((below_new _ _).drew) | exact below_then HB.out ((Below.refl _ W0).drew.alloc (Nat.le_refl _) _)
    · go_enter Try.func25, Try.ntmps25
      go_wp2_with fail
      rw [← HW.out]
      go_upto_region 3 with (go_at_call 38; refine (lisIn_any _ _ _ _).mono ?_; rintro e w1 ⟨rfl, rfl⟩; first | rw [i1.out] | rw [i2.out])
      go_region_with ((go_at_call 41; refine (lrules_any _).mono ?_; rintro e w2 ⟨rfl, rfl⟩))
      all_goals
        go_wp2_with (go_at_call 38; refine (lisIn_any _ _ _ _).mono ?_; rintro e w1 ⟨rfl, rfl⟩)
        go_ret
        refine ⟨ret_bool ?_, ?_⟩
        · rw [Bool.eq_iff_iff, frmB_iff]; simp [Frm, inB, Named] <;> omega
        · first | exact below_then HB.out ((below_new _ _).drew) | exact below_then HB.out ((Below.refl _ W0).drew.alloc (Nat.le_refl _) _)
    · go_enter Try.func25, Try.ntmps25
      go_wp2_with fail
      rw [← HW.out]
      go_upto_region 3 with (go_at_call 38; refine (lisIn_any _ _ _ _).mono ?_; rintro e w1 ⟨rfl, rfl⟩; first | rw [i1.out] | rw [i2.out])
      go_region_with ((go_at_call 41; refine (lrules_any _).mono ?_; rintro e w2 ⟨rfl, rfl⟩))
      all_goals
        go_wp2_with (go_at_call 38; refine (lisIn_any _ _ _ _).mono ?_; rintro e w1 ⟨rfl, rfl⟩)
        go_ret
        refine ⟨ret_bool ?_, ?_⟩
        · rw [Bool.eq_iff_iff, frmB_iff]; simp [Frm, inB, Named] <;> omega
        · first | exact below_then HB.out ((below_new _ _).drew) | exact below_then HB.out ((Below.refl _ W0).drew.alloc (Nat.le_refl _) _)
  · have HV := Lib.hid (show frmB ⟨k, a, h⟩ = false by rw [Bool.eq_false_iff, Ne, frmB_iff]; rintro ⟨f1, f2, f3, f4, _⟩; exact hk ⟨f1, f2, f3, f4⟩)
    by_cases h1 : 1 ≤ k ∧ k ≤ 7
    · have i1 := Lib.hid (inB_iff.2 h1)
      have i2 := Lib.hid (inB_no.2 (show ¬ (0 ≤ a ∧ a ≤ 10000000) by omega))
      clear hk h1
      go_enter Try.func25, Try.ntmps25
      go_wp2_with (go_at_call 38; refine (lisIn_any _ _ _ _).mono ?_; rintro e w1 ⟨rfl, rfl⟩; first | rw [i1.out] | rw [i2.out])
      go_ret
      exact ⟨by rw [HV.out]; rfl, below_new _ _⟩
    · have i1 := Lib.hid (inB_no.2 h1)
      clear hk h1
      go_enter Try.func25, Try.ntmps25
      go_wp2_with (go_at_call 38; refine (lisIn_any _ _ _ _).mono ?_; rintro e w1 ⟨rfl, rfl⟩; rw [i1.out])
      go_ret
      exact ⟨by rw [HV.out]; rfl, below_new _ _⟩
end Go.Proofs.Ytjhakonpnopcnaa
