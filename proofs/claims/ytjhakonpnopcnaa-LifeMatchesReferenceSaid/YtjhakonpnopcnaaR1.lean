/-
  dialtoneref14: pick, possible, Step; dialtonelaw14: pick.
-/
import Derived.Test.YtjhakonpnopcnaaL14
set_option linter.unusedVariables false
set_option linter.unusedSimpArgs false
namespace Go.Proofs.Ytjhakonpnopcnaa
open Go Go.RowKit Go.Dial Go.Dial.Lif

def pickV (c n : Int) : Int := (if c < 0 then -(c + 1) else c) % n
theorem pickV_bd (c : Int) {n : Int} (hn : 0 < n) : 0 ≤ pickV c n ∧ pickV c n < n := ⟨Int.emod_nonneg _ (by omega), Int.emod_lt_of_pos _ hn⟩
theorem ret_i {a b : Int} (h : a = b) : Ending.returned (.int .i64 a) = .returned (.int .i64 b) := by rw [h]
def I64 (c : Int) : Prop := -9223372036854775808 ≤ c ∧ c ≤ 9223372036854775807
theorem rpick_any (c n : Int) (w : World) (hc : I64 c) (hn : 0 < n) (hn2 : n ≤ 9223372036854775807) : Calls Try.prog 32 #[.int .i64 c, .int .i64 n] w fun e w' => e = .returned (.int .i64 (pickV c n)) ∧ w = w' := by
  obtain ⟨h1, h2⟩ := hc
  by_cases h : c < 0
  · have HV : Hid (pickV c n = -(c + 1) % n) := Lib.hid (by rw [pickV, if_pos h])
    have h3 : 0 ≤ -(c + 1) := by omega
    have e1 : IntKind.i64.wrap (c + 1) = c + 1 := IntWalk.i64_in _ (by omega)
    have e2 : IntKind.i64.wrap (-(c + 1)) = -(c + 1) := IntWalk.i64_in _ (by omega)
    go_enter Try.func32, Try.ntmps32
    go_wp2_with fail
    go_ret
    refine ⟨ret_i ?_, rfl⟩
    rw [HV.out, ← Int.tmod_eq_emod_of_nonneg h3]
    first | rfl | (rw [Int.neg_tmod]; rfl) | simp
  · have HV : Hid (pickV c n = c % n) := Lib.hid (by rw [pickV, if_neg h])
    have h3 : 0 ≤ c := by omega
    clear h
    go_enter Try.func32, Try.ntmps32
    go_wp2_with fail
    go_ret
    exact ⟨by rw [HV.out]; rfl, rfl⟩
theorem pick_any (c n : Int) (w : World) (hc : I64 c) (hn : 0 < n) (hn2 : n ≤ 9223372036854775807) : Calls Try.prog 20 #[.int .i64 c, .int .i64 n] w fun e w' => e = .returned (.int .i64 (pickV c n)) ∧ w = w' := by
  obtain ⟨h1, h2⟩ := hc
  by_cases h : c < 0
  · have HV : Hid (pickV c n = -(c + 1) % n) := Lib.hid (by rw [pickV, if_pos h])
    have h3 : 0 ≤ -(c + 1) := by omega
    have e1 : IntKind.i64.wrap (c + 1) = c + 1 := IntWalk.i64_in _ (by omega)
    have e2 : IntKind.i64.wrap (-(c + 1)) = -(c + 1) := IntWalk.i64_in _ (by omega)
    go_enter Try.func20, Try.ntmps20
    go_wp2_with fail
    go_ret
    refine ⟨ret_i ?_, rfl⟩
    rw [HV.out, ← Int.tmod_eq_emod_of_nonneg h3]
    first | rfl | (rw [Int.neg_tmod]; rfl) | simp
  · have HV : Hid (pickV c n = c % n) := Lib.hid (by rw [pickV, if_neg h])
    have h3 : 0 ≤ c := by omega
    clear h
    go_enter Try.func20, Try.ntmps20
    go_wp2_with fail
    go_ret
    exact ⟨by rw [HV.out]; rfl, rfl⟩

def posB (l : Ln) (x : Ev) : Bool := decide (Pos l x)
theorem posB_iff {l : Ln} {x : Ev} : posB l x = true ↔ Pos l x := decide_eq_true_iff
set_option maxHeartbeats 3200000 in
theorem rpossible_any (l : Ln) (x : Ev) (w : World) (hv : Vld l) (hf : Frm x) : Calls Try.prog 42 #[lnA l, evA x] w fun e w' => e = .returned (.bool (posB l x)) ∧ Below w.heap.size w w' := by
  obtain ⟨s, h, e, t⟩ := l
  obtain ⟨k, a, u⟩ := x
  obtain ⟨v1, v2, v3, v4, v5, v6, v7, v8⟩ := hv
  obtain ⟨q1, q2, q3, q4, q5, q6⟩ := hf
  dsimp only at *
  have e1 : IntKind.i64.wrap (t + 2592000) = t + 2592000 := IntWalk.i64_in _ (by omega)
  clear v7 v8 q5 q6 v1 v2 v3 v4 v5 v6 q3 q4
  unfold lnA evA
  go_enter Try.func42, Try.ntmps42
  go_wp2_with fail
  all_goals go_ret
  all_goals refine ⟨ret_bool ?_, below_new2 _ _ _⟩
  all_goals (rw [Bool.eq_iff_iff, posB_iff]; simp [Pos] at * <;> omega)

theorem rstep_bad (l : Ln) (x : Ev) (w : World) (h : ¬ Ok l x) : Calls Try.prog 24 #[lnA l, evA x] w (StepPost l x w) := by
  have hno := Lib.hid h
  obtain ⟨W0, hW0⟩ : ∃ W0, W0 = ((w.alloc (.cells #[.int .i64 l.s, .int .i64 l.h, .int .i64 l.e, .int .i64 l.t] 26)).alloc (.cells #[.int .i64 x.k, .int .i64 x.a, .int .i64 x.h] 54)).alloc (.cells #[.int .i64 0, .int .i64 0, .int .i64 0, .int .i64 0] 26) := ⟨_, rfl⟩
  have V0 := Lib.hid (show Vars w l x W0 by rw [hW0]; exact vars_0 w l x)
  have HW := Lib.hid hW0
  clear hW0
  obtain ⟨⟨c0, c1, c2, c3⟩, ⟨d0, d1, d2⟩, ⟨z0, z1, z2, z3⟩, ⟨f0, f1, f2, f3⟩, ⟨g0, g1, g2, g3⟩, hlt⟩ := V0.out.cells
  by_cases hv : Vld l
  · have tv := Lib.hid (vldB_iff.2 hv)
    by_cases hf : Frm x
    · have tf := Lib.hid (frmB_iff.2 hf)
      have tp := Lib.hid (Bool.eq_false_iff.2 (fun e => h ⟨hv, hf, posB_iff.1 e⟩))
      have HV := Lib.hid hv
      have HF := Lib.hid hf
      clear h hv hf
      unfold lnA evA
      go_enter Try.func24, Try.ntmps24
      go_wp2_with fail
      rw [← HW.out]
      refine (rvalid_any l _).mono ?_
      rintro e W1 ⟨rfl, hb1⟩
      rw [tv.out]
      have V1 := Lib.hid (V0.out.later hb1)
      clear c0 c1 c2 c3 d0 d1 d2 z0 z1 z2 z3 f0 f1 f2 f3 g0 g1 g2 g3 hlt hb1
      obtain ⟨⟨c0, c1, c2, c3⟩, ⟨d0, d1, d2⟩, ⟨z0, z1, z2, z3⟩, ⟨f0, f1, f2, f3⟩, ⟨g0, g1, g2, g3⟩, hlt⟩ := V1.out.cells
      go_wp2_with fail
      refine (rformed_any x _).mono ?_
      rintro e W2 ⟨rfl, hb2⟩
      rw [tf.out]
      have V2 := Lib.hid (V1.out.later hb2)
      clear c0 c1 c2 c3 d0 d1 d2 z0 z1 z2 z3 f0 f1 f2 f3 g0 g1 g2 g3 hlt hb2
      obtain ⟨⟨c0, c1, c2, c3⟩, ⟨d0, d1, d2⟩, ⟨z0, z1, z2, z3⟩, ⟨f0, f1, f2, f3⟩, ⟨g0, g1, g2, g3⟩, hlt⟩ := V2.out.cells
      go_wp2_with fail
      refine (rpossible_any l x _ HV.out HF.out).mono ?_
      rintro e W3 ⟨rfl, hb3⟩
      rw [tp.out]
      have V3 := Lib.hid (V2.out.later hb3)
      clear c0 c1 c2 c3 d0 d1 d2 z0 z1 z2 z3 f0 f1 f2 f3 g0 g1 g2 g3 hlt hb3
      obtain ⟨⟨c0, c1, c2, c3⟩, ⟨d0, d1, d2⟩, ⟨z0, z1, z2, z3⟩, ⟨f0, f1, f2, f3⟩, ⟨g0, g1, g2, g3⟩, hlt⟩ := V3.out.cells
      go_wp2_with fail
      exact bodyPost_ret (v := .tuple #[.agg #[.int .i64 0, .int .i64 0, .int .i64 0, .int .i64 0], .int .i64 140]) (by simp [results, Try.results24, go_sem, *]) rfl (StepPost.no hno.out ((((V3.out.2.2.2.setCell (by simp <;> omega) _).setCell (by simp <;> omega) _).setCell (by simp <;> omega) _).setCell (by simp <;> omega) _))
    · have tf := Lib.hid (Bool.eq_false_iff.2 (fun e => hf (frmB_iff.1 e)))
      clear h hv hf
      unfold lnA evA
      go_enter Try.func24, Try.ntmps24
      go_wp2_with fail
      rw [← HW.out]
      refine (rvalid_any l _).mono ?_
      rintro e W1 ⟨rfl, hb1⟩
      rw [tv.out]
      have V1 := Lib.hid (V0.out.later hb1)
      clear c0 c1 c2 c3 d0 d1 d2 z0 z1 z2 z3 f0 f1 f2 f3 g0 g1 g2 g3 hlt hb1
      obtain ⟨⟨c0, c1, c2, c3⟩, ⟨d0, d1, d2⟩, ⟨z0, z1, z2, z3⟩, ⟨f0, f1, f2, f3⟩, ⟨g0, g1, g2, g3⟩, hlt⟩ := V1.out.cells
      go_wp2_with fail
      refine (rformed_any x _).mono ?_
      rintro e W2 ⟨rfl, hb2⟩
      rw [tf.out]
      have V2 := Lib.hid (V1.out.later hb2)
      clear c0 c1 c2 c3 d0 d1 d2 z0 z1 z2 z3 f0 f1 f2 f3 g0 g1 g2 g3 hlt hb2
      obtain ⟨⟨c0, c1, c2, c3⟩, ⟨d0, d1, d2⟩, ⟨z0, z1, z2, z3⟩, ⟨f0, f1, f2, f3⟩, ⟨g0, g1, g2, g3⟩, hlt⟩ := V2.out.cells
      go_wp2_with fail
      exact bodyPost_ret (v := .tuple #[.agg #[.int .i64 0, .int .i64 0, .int .i64 0, .int .i64 0], .int .i64 140]) (by simp [results, Try.results24, go_sem, *]) rfl (StepPost.no hno.out ((((V2.out.2.2.2.setCell (by simp <;> omega) _).setCell (by simp <;> omega) _).setCell (by simp <;> omega) _).setCell (by simp <;> omega) _))
  · have tv := Lib.hid (Bool.eq_false_iff.2 (fun e => hv (vldB_iff.1 e)))
    clear h hv
    unfold lnA evA
    go_enter Try.func24, Try.ntmps24
    go_wp2_with fail
    rw [← HW.out]
    refine (rvalid_any l _).mono ?_
    rintro e W1 ⟨rfl, hb1⟩
    rw [tv.out]
    have V1 := Lib.hid (V0.out.later hb1)
    clear c0 c1 c2 c3 d0 d1 d2 z0 z1 z2 z3 f0 f1 f2 f3 g0 g1 g2 g3 hlt hb1
    obtain ⟨⟨c0, c1, c2, c3⟩, ⟨d0, d1, d2⟩, ⟨z0, z1, z2, z3⟩, ⟨f0, f1, f2, f3⟩, ⟨g0, g1, g2, g3⟩, hlt⟩ := V1.out.cells
    go_wp2_with fail
    exact bodyPost_ret (v := .tuple #[.agg #[.int .i64 0, .int .i64 0, .int .i64 0, .int .i64 0], .int .i64 140]) (by simp [results, Try.results24, go_sem, *]) rfl (StepPost.no hno.out ((((V1.out.2.2.2.setCell (by simp <;> omega) _).setCell (by simp <;> omega) _).setCell (by simp <;> omega) _).setCell (by simp <;> omega) _))
set_option maxHeartbeats 3200000 in
theorem rstep_ok (l : Ln) (x : Ev) (w : World) (h : Ok l x) : Calls Try.prog 24 #[lnA l, evA x] w (StepPost l x w) := by
  obtain ⟨W0, hW0⟩ : ∃ W0, W0 = ((w.alloc (.cells #[.int .i64 l.s, .int .i64 l.h, .int .i64 l.e, .int .i64 l.t] 26)).alloc (.cells #[.int .i64 x.k, .int .i64 x.a, .int .i64 x.h] 54)).alloc (.cells #[.int .i64 0, .int .i64 0, .int .i64 0, .int .i64 0] 26) := ⟨_, rfl⟩
  have V0 := Lib.hid (show Vars w l x W0 by rw [hW0]; exact vars_0 w l x)
  have HW := Lib.hid hW0
  clear hW0
  obtain ⟨⟨c0, c1, c2, c3⟩, ⟨d0, d1, d2⟩, ⟨z0, z1, z2, z3⟩, ⟨f0, f1, f2, f3⟩, ⟨g0, g1, g2, g3⟩, hlt⟩ := V0.out.cells
  have tv := Lib.hid (vldB_iff.2 h.1)
  have tf := Lib.hid (frmB_iff.2 h.2.1)
  have tp := Lib.hid (posB_iff.2 h.2.2)
  have HOK := Lib.hid h
  have HV := Lib.hid h.1
  have HF := Lib.hid h.2.1
  have se : IntKind.i64.wrap (l.e + 1) = l.e + 1 := IntWalk.i64_in _ (by have := h.1.2.2.1; have := h.1.2.2.2.1; omega)
  have q1 := h.2.1.1
  have q2 := h.2.1.2.1
  clear h
  unfold lnA evA
  go_enter Try.func24, Try.ntmps24
  go_wp2_with fail
  rw [← HW.out]
  refine (rvalid_any l _).mono ?_
  rintro e W1 ⟨rfl, hb1⟩
  rw [tv.out]
  have V1 := Lib.hid (V0.out.later hb1)
  clear c0 c1 c2 c3 d0 d1 d2 z0 z1 z2 z3 f0 f1 f2 f3 g0 g1 g2 g3 hlt hb1
  obtain ⟨⟨c0, c1, c2, c3⟩, ⟨d0, d1, d2⟩, ⟨z0, z1, z2, z3⟩, ⟨f0, f1, f2, f3⟩, ⟨g0, g1, g2, g3⟩, hlt⟩ := V1.out.cells
  go_wp2_with fail
  refine (rformed_any x _).mono ?_
  rintro e W2 ⟨rfl, hb2⟩
  rw [tf.out]
  have V2 := Lib.hid (V1.out.later hb2)
  clear c0 c1 c2 c3 d0 d1 d2 z0 z1 z2 z3 f0 f1 f2 f3 g0 g1 g2 g3 hlt hb2
  obtain ⟨⟨c0, c1, c2, c3⟩, ⟨d0, d1, d2⟩, ⟨z0, z1, z2, z3⟩, ⟨f0, f1, f2, f3⟩, ⟨g0, g1, g2, g3⟩, hlt⟩ := V2.out.cells
  go_wp2_with fail
  refine (rpossible_any l x _ HV.out HF.out).mono ?_
  rintro e W3 ⟨rfl, hb3⟩
  rw [tp.out]
  have V3 := Lib.hid (V2.out.later hb3)
  clear c0 c1 c2 c3 d0 d1 d2 z0 z1 z2 z3 f0 f1 f2 f3 g0 g1 g2 g3 hlt hb3
  obtain ⟨⟨c0, c1, c2, c3⟩, ⟨d0, d1, d2⟩, ⟨z0, z1, z2, z3⟩, ⟨f0, f1, f2, f3⟩, ⟨g0, g1, g2, g3⟩, hlt⟩ := V3.out.cells
  have BW := Lib.hid (show Below w.heap.size w W3 from V3.out.2.2.2)
  have n1 : w.heap.size ≠ w.heap.size + 1 := by omega
  have n2 : w.heap.size ≠ w.heap.size + 2 := by omega
  have n3 : w.heap.size + 1 ≠ w.heap.size + 2 := by omega
  go_wp2_with fail
  · exact bodyPost_ret (v := .tuple #[lnA ⟨1, x.h, l.e + 1, x.a⟩, .int .i64 0]) (by simp [results, Try.results24, go_sem, lnA, *]) rfl
      (StepPost.yes HOK.out (by rename_i hh; simp at hh; simp [nxt, *] <;> omega) (by repeat (first | with_reducible exact BW.out | with_reducible refine Below.drew ?_ | with_reducible refine Below.setCell ?_ (by simp <;> omega) _)))
  · exact bodyPost_ret (v := .tuple #[lnA ⟨1, x.h, l.e + 1, x.a⟩, .int .i64 0]) (by simp [results, Try.results24, go_sem, lnA, *]) rfl
      (StepPost.yes HOK.out (by rename_i hh; simp at hh; simp [nxt, *] <;> omega) (by repeat (first | with_reducible exact BW.out | with_reducible refine Below.drew ?_ | with_reducible refine Below.setCell ?_ (by simp <;> omega) _)))
  · exact bodyPost_ret (v := .tuple #[lnA ⟨2, l.h, l.e, x.a⟩, .int .i64 0]) (by simp [results, Try.results24, go_sem, lnA, *]) rfl
      (StepPost.yes HOK.out (by rename_i hh; simp at hh; simp [nxt, *] <;> omega) (by repeat (first | with_reducible exact BW.out | with_reducible refine Below.drew ?_ | with_reducible refine Below.setCell ?_ (by simp <;> omega) _)))
  · exact bodyPost_ret (v := .tuple #[lnA ⟨1, l.h, l.e, x.a⟩, .int .i64 0]) (by simp [results, Try.results24, go_sem, lnA, *]) rfl
      (StepPost.yes HOK.out (by rename_i hh; simp at hh; simp [nxt, *] <;> omega) (by repeat (first | with_reducible exact BW.out | with_reducible refine Below.drew ?_ | with_reducible refine Below.setCell ?_ (by simp <;> omega) _)))
  · exact bodyPost_ret (v := .tuple #[lnA ⟨1, l.h, l.e, x.a⟩, .int .i64 0]) (by simp [results, Try.results24, go_sem, lnA, *]) rfl
      (StepPost.yes HOK.out (by rename_i hh; simp at hh; simp [nxt, *] <;> omega) (by repeat (first | with_reducible exact BW.out | with_reducible refine Below.drew ?_ | with_reducible refine Below.setCell ?_ (by simp <;> omega) _)))
  · exact bodyPost_ret (v := .tuple #[lnA ⟨3, l.h, l.e, x.a⟩, .int .i64 0]) (by simp [results, Try.results24, go_sem, lnA, *]) rfl
      (StepPost.yes HOK.out (by rename_i hh; simp at hh; simp [nxt, *] <;> omega) (by repeat (first | with_reducible exact BW.out | with_reducible refine Below.drew ?_ | with_reducible refine Below.setCell ?_ (by simp <;> omega) _)))
  · exact bodyPost_ret (v := .tuple #[lnA ⟨0, -1, l.e, x.a⟩, .int .i64 0]) (by simp [results, Try.results24, go_sem, lnA, *]) rfl
      (StepPost.yes HOK.out (by simp at *; have h7 : x.k = 7 := (by omega); simp [nxt, h7]) (by repeat (first | with_reducible exact BW.out | with_reducible refine Below.drew ?_ | with_reducible refine Below.setCell ?_ (by simp <;> omega) _)))
theorem rstep_any (l : Ln) (x : Ev) (w : World) : Calls Try.prog 24 #[lnA l, evA x] w (StepPost l x w) := by
  by_cases h : Ok l x
  · exact rstep_ok l x w h
  · exact rstep_bad l x w h
end Go.Proofs.Ytjhakonpnopcnaa
