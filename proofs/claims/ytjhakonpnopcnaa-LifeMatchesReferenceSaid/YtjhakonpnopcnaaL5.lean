/-
  life.Step: further kinds of events.
-/
import Derived.Test.YtjhakonpnopcnaaL4
set_option linter.unusedVariables false
set_option linter.unusedSimpArgs false
namespace Go.Proofs.Ytjhakonpnopcnaa
open Go Go.RowKit Go.Dial Go.Dial.Lif

set_option maxRecDepth 100000 in
set_option maxHeartbeats 4000000 in
theorem lstep_5 (s h e t a x : Int) (w : World) (hv : Vld ⟨s, h, e, t⟩) (hf : Frm ⟨5, a, x⟩) (hta : t ≤ a) : Calls Try.prog 23 #[lnA ⟨s, h, e, t⟩, evA ⟨5, a, x⟩] w (StepPost ⟨s, h, e, t⟩ ⟨5, a, x⟩ w) := by
  obtain ⟨W0, hW0⟩ : ∃ W0, W0 = ((w.alloc (.cells #[.int .i64 s, .int .i64 h, .int .i64 e, .int .i64 t] 26)).alloc (.cells #[.int .i64 5, .int .i64 a, .int .i64 x] 54)).alloc (.cells #[.int .i64 0, .int .i64 0, .int .i64 0, .int .i64 0] 26) := ⟨_, rfl⟩
  have V0 := Lib.hid (show Vars w ⟨s, h, e, t⟩ ⟨5, a, x⟩ W0 by rw [hW0]; exact vars_0 w ⟨s, h, e, t⟩ ⟨5, a, x⟩)
  have HW := Lib.hid hW0
  clear hW0
  obtain ⟨⟨c0, c1, c2, c3⟩, ⟨d0, d1, d2⟩, ⟨z0, z1, z2, z3⟩, ⟨f0, f1, f2, f3⟩, ⟨g0, g1, g2, g3⟩, hlt⟩ := V0.out.cells
  have tv := Lib.hid (vldB_iff.2 hv)
  have tf := Lib.hid (frmB_iff.2 hf)
  have HV := Lib.hid hv
  have HF := Lib.hid hf
  obtain ⟨v1, v2, v3, v4, v5, v6, v7, v8⟩ := hv
  obtain ⟨q1, q2, q3, q4, q5, q6⟩ := hf
  dsimp only at v1 v2 v3 v4 v5 v6 q3 q4
  have hs : s = 0 ∨ s = 1 ∨ s = 2 ∨ s = 3 := by omega
  have ta : decide (a < t) = false := by simp; omega
  have se : IntKind.i64.wrap (e + 1) = e + 1 := IntWalk.i64_in _ (by omega)
  have sd : IntKind.i64.wrap (a - t) = a - t := IntWalk.i64_in _ (by omega)
  clear v1 v2 v7 v8 q1 q2 q5 q6
  unfold lnA evA
  go_enter Try.func23, Try.ntmps23
  go_wp2_with fail
  rw [← HW.out]
  refine (lvalid_any ⟨s, h, e, t⟩ _).mono ?_
  rintro e W1 ⟨rfl, hb1⟩
  rw [tv.out]
  have V1 := Lib.hid (V0.out.later hb1)
  clear c0 c1 c2 c3 d0 d1 d2 z0 z1 z2 z3 f0 f1 f2 f3 g0 g1 g2 g3 hlt hb1
  obtain ⟨⟨c0, c1, c2, c3⟩, ⟨d0, d1, d2⟩, ⟨z0, z1, z2, z3⟩, ⟨f0, f1, f2, f3⟩, ⟨g0, g1, g2, g3⟩, hlt⟩ := V1.out.cells
  go_wp2_with fail
  refine (lformed_any ⟨5, a, x⟩ _).mono ?_
  rintro e W2 ⟨rfl, hb2⟩
  rw [tf.out]
  have V2 := Lib.hid (V1.out.later hb2)
  clear c0 c1 c2 c3 d0 d1 d2 z0 z1 z2 z3 f0 f1 f2 f3 g0 g1 g2 g3 hlt hb2
  obtain ⟨⟨c0, c1, c2, c3⟩, ⟨d0, d1, d2⟩, ⟨z0, z1, z2, z3⟩, ⟨f0, f1, f2, f3⟩, ⟨g0, g1, g2, g3⟩, hlt⟩ := V2.out.cells
  go_wp2_with fail
  have l0 := World.new_ne W2 ⟨w.heap.size + 1, 0, none⟩ d0
  have l1 : w.heap.size + 1 < W2.heap.size := by omega
  have l2 : w.heap.size < W2.heap.size := by omega
  have l3 : W2.heap.size ≠ w.heap.size := by omega
  have l4 : W2.heap.size ≠ w.heap.size + 2 := by omega
  have l5 : W2.heap.size + 1 ≠ w.heap.size + 1 := by omega
  go_cut [6] (fun s6 wx => ∃ g : Nat, s6 = .pointer (some ⟨g, 0, none⟩) ∧ wx.heap[g]? = some (.cells #[.int .i64 6, .int .i64 3, .bool false] 78) ∧ W2.heap.size ≤ g ∧ Below W2.heap.size W2 wx)
  case first =>
    go_region_with ((go_at_call 41; refine (lrules_any _).mono ?_; rintro e w2 ⟨rfl, rfl⟩))
    all_goals
      go_wp2_with fail
      go_meet
      exact ⟨_, rfl, by first | exact two_new W2 _ _ | exact two_old W2 _ _, by first | exact Nat.le_refl _ | exact Nat.le_succ _, (below_new2 W2 _ _).drew⟩
  case rest =>
    obtain ⟨g, rfl, hg, hgl, hbx⟩ := hcut
    have V3 := Lib.hid (V2.out.later hbx)
    have BW := Lib.hid V3.out.2.2.2
    have HG := Lib.hid hg
    clear c0 c1 c2 c3 d0 d1 d2 z0 z1 z2 z3 f0 f1 f2 f3 g0 g1 g2 g3 hlt l0 l1 l2 l3 l4 l5 hbx
    obtain ⟨⟨c0, c1, c2, c3⟩, ⟨d0, d1, d2⟩, ⟨z0, z1, z2, z3⟩, ⟨f0, f1, f2, f3⟩, ⟨g0, g1, g2, g3⟩, hlt⟩ := V3.out.cells
    have r0 := gcell (cs := [.int .i64 6, .int .i64 3, .bool false]) hg (i := 0) rfl
    have r1 := gcell (cs := [.int .i64 6, .int .i64 3, .bool false]) hg (i := 1) rfl
    have r2 := gcell (cs := [.int .i64 6, .int .i64 3, .bool false]) hg (i := 2) rfl
    have m0 : g ≠ w.heap.size := by have := V2.out.cells.2.2.2.2.2; omega
    have m2 : g ≠ w.heap.size + 2 := by have := V2.out.cells.2.2.2.2.2; omega
    have m1 : g ≠ w.heap.size + 1 := by have := V2.out.cells.2.2.2.2.2; omega
    have m3 := Ne.symm m0
    have m4 := Ne.symm m1
    have m5 := Ne.symm m2
    clear hg hgl
    rcases hs with rfl | rfl | rfl | rfl
    · have hb : bits BinOp.and IntKind.i64 6 1 = 0 := by decide
      go_wp2_with fail
      exact bodyPost_ret (v := .tuple #[.agg #[.int .i64 0, .int .i64 0, .int .i64 0, .int .i64 0], .int .i64 140]) (by simp [results, Try.results23, go_sem, *]) rfl
        (StepPost.no (fun hh => by have p := hh.2.2; simp [Pos] at p <;> omega) (by repeat (first | with_reducible exact BW.out | with_reducible refine Below.drew ?_ | with_reducible refine Below.setCell ?_ (by simp <;> omega) _)))
    · have hb : bits BinOp.and IntKind.i64 3 1 = 1 := by decide
      go_wp2_with fail
      go_region
      all_goals
        go_wp2_with fail
        exact bodyPost_ret (v := .tuple #[lnA ⟨3, h, e, a⟩, .int .i64 0]) (by simp [results, Try.results23, go_sem, lnA, *]) rfl
          (StepPost.yes ⟨HV.out, HF.out, by simp [Pos] <;> omega⟩ (by simp [nxt]) (by repeat (first | with_reducible exact BW.out | with_reducible refine Below.drew ?_ | with_reducible refine Below.setCell ?_ (by simp <;> omega) _)))
    · have hb : bits BinOp.and IntKind.i64 1 1 = 1 := by decide
      go_wp2_with fail
      go_region
      all_goals
        go_wp2_with fail
        exact bodyPost_ret (v := .tuple #[lnA ⟨3, h, e, a⟩, .int .i64 0]) (by simp [results, Try.results23, go_sem, lnA, *]) rfl
          (StepPost.yes ⟨HV.out, HF.out, by simp [Pos] <;> omega⟩ (by simp [nxt]) (by repeat (first | with_reducible exact BW.out | with_reducible refine Below.drew ?_ | with_reducible refine Below.setCell ?_ (by simp <;> omega) _)))
    · have hb : bits BinOp.and IntKind.i64 0 1 = 0 := by decide
      go_wp2_with fail
      exact bodyPost_ret (v := .tuple #[.agg #[.int .i64 0, .int .i64 0, .int .i64 0, .int .i64 0], .int .i64 140]) (by simp [results, Try.results23, go_sem, *]) rfl
        (StepPost.no (fun hh => by have p := hh.2.2; simp [Pos] at p <;> omega) (by repeat (first | with_reducible exact BW.out | with_reducible refine Below.drew ?_ | with_reducible refine Below.setCell ?_ (by simp <;> omega) _)))

set_option maxRecDepth 100000 in
set_option maxHeartbeats 4000000 in
theorem lstep_6 (s h e t a x : Int) (w : World) (hv : Vld ⟨s, h, e, t⟩) (hf : Frm ⟨6, a, x⟩) (hta : t ≤ a) : Calls Try.prog 23 #[lnA ⟨s, h, e, t⟩, evA ⟨6, a, x⟩] w (StepPost ⟨s, h, e, t⟩ ⟨6, a, x⟩ w) := by
  obtain ⟨W0, hW0⟩ : ∃ W0, W0 = ((w.alloc (.cells #[.int .i64 s, .int .i64 h, .int .i64 e, .int .i64 t] 26)).alloc (.cells #[.int .i64 6, .int .i64 a, .int .i64 x] 54)).alloc (.cells #[.int .i64 0, .int .i64 0, .int .i64 0, .int .i64 0] 26) := ⟨_, rfl⟩
  have V0 := Lib.hid (show Vars w ⟨s, h, e, t⟩ ⟨6, a, x⟩ W0 by rw [hW0]; exact vars_0 w ⟨s, h, e, t⟩ ⟨6, a, x⟩)
  have HW := Lib.hid hW0
  clear hW0
  obtain ⟨⟨c0, c1, c2, c3⟩, ⟨d0, d1, d2⟩, ⟨z0, z1, z2, z3⟩, ⟨f0, f1, f2, f3⟩, ⟨g0, g1, g2, g3⟩, hlt⟩ := V0.out.cells
  have tv := Lib.hid (vldB_iff.2 hv)
  have tf := Lib.hid (frmB_iff.2 hf)
  have HV := Lib.hid hv
  have HF := Lib.hid hf
  obtain ⟨v1, v2, v3, v4, v5, v6, v7, v8⟩ := hv
  obtain ⟨q1, q2, q3, q4, q5, q6⟩ := hf
  dsimp only at v1 v2 v3 v4 v5 v6 q3 q4
  have hs : s = 0 ∨ s = 1 ∨ s = 2 ∨ s = 3 := by omega
  have ta : decide (a < t) = false := by simp; omega
  have se : IntKind.i64.wrap (e + 1) = e + 1 := IntWalk.i64_in _ (by omega)
  have sd : IntKind.i64.wrap (a - t) = a - t := IntWalk.i64_in _ (by omega)
  clear v1 v2 v7 v8 q1 q2 q5 q6
  unfold lnA evA
  go_enter Try.func23, Try.ntmps23
  go_wp2_with fail
  rw [← HW.out]
  refine (lvalid_any ⟨s, h, e, t⟩ _).mono ?_
  rintro e W1 ⟨rfl, hb1⟩
  rw [tv.out]
  have V1 := Lib.hid (V0.out.later hb1)
  clear c0 c1 c2 c3 d0 d1 d2 z0 z1 z2 z3 f0 f1 f2 f3 g0 g1 g2 g3 hlt hb1
  obtain ⟨⟨c0, c1, c2, c3⟩, ⟨d0, d1, d2⟩, ⟨z0, z1, z2, z3⟩, ⟨f0, f1, f2, f3⟩, ⟨g0, g1, g2, g3⟩, hlt⟩ := V1.out.cells
  go_wp2_with fail
  refine (lformed_any ⟨6, a, x⟩ _).mono ?_
  rintro e W2 ⟨rfl, hb2⟩
  rw [tf.out]
  have V2 := Lib.hid (V1.out.later hb2)
  clear c0 c1 c2 c3 d0 d1 d2 z0 z1 z2 z3 f0 f1 f2 f3 g0 g1 g2 g3 hlt hb2
  obtain ⟨⟨c0, c1, c2, c3⟩, ⟨d0, d1, d2⟩, ⟨z0, z1, z2, z3⟩, ⟨f0, f1, f2, f3⟩, ⟨g0, g1, g2, g3⟩, hlt⟩ := V2.out.cells
  go_wp2_with fail
  have l0 := World.new_ne W2 ⟨w.heap.size + 1, 0, none⟩ d0
  have l1 : w.heap.size + 1 < W2.heap.size := by omega
  have l2 : w.heap.size < W2.heap.size := by omega
  have l3 : W2.heap.size ≠ w.heap.size := by omega
  have l4 : W2.heap.size ≠ w.heap.size + 2 := by omega
  have l5 : W2.heap.size + 1 ≠ w.heap.size + 1 := by omega
  go_cut [6] (fun s6 wx => ∃ g : Nat, s6 = .pointer (some ⟨g, 0, none⟩) ∧ wx.heap[g]? = some (.cells #[.int .i64 8, .int .i64 1, .bool false] 78) ∧ W2.heap.size ≤ g ∧ Below W2.heap.size W2 wx)
  case first =>
    go_region_with ((go_at_call 41; refine (lrules_any _).mono ?_; rintro e w2 ⟨rfl, rfl⟩))
    all_goals
      go_wp2_with fail
      go_meet
      exact ⟨_, rfl, by first | exact two_new W2 _ _ | exact two_old W2 _ _, by first | exact Nat.le_refl _ | exact Nat.le_succ _, (below_new2 W2 _ _).drew⟩
  case rest =>
    obtain ⟨g, rfl, hg, hgl, hbx⟩ := hcut
    have V3 := Lib.hid (V2.out.later hbx)
    have BW := Lib.hid V3.out.2.2.2
    have HG := Lib.hid hg
    clear c0 c1 c2 c3 d0 d1 d2 z0 z1 z2 z3 f0 f1 f2 f3 g0 g1 g2 g3 hlt l0 l1 l2 l3 l4 l5 hbx
    obtain ⟨⟨c0, c1, c2, c3⟩, ⟨d0, d1, d2⟩, ⟨z0, z1, z2, z3⟩, ⟨f0, f1, f2, f3⟩, ⟨g0, g1, g2, g3⟩, hlt⟩ := V3.out.cells
    have r0 := gcell (cs := [.int .i64 8, .int .i64 1, .bool false]) hg (i := 0) rfl
    have r1 := gcell (cs := [.int .i64 8, .int .i64 1, .bool false]) hg (i := 1) rfl
    have r2 := gcell (cs := [.int .i64 8, .int .i64 1, .bool false]) hg (i := 2) rfl
    have m0 : g ≠ w.heap.size := by have := V2.out.cells.2.2.2.2.2; omega
    have m2 : g ≠ w.heap.size + 2 := by have := V2.out.cells.2.2.2.2.2; omega
    have m1 : g ≠ w.heap.size + 1 := by have := V2.out.cells.2.2.2.2.2; omega
    have m3 := Ne.symm m0
    have m4 := Ne.symm m1
    have m5 := Ne.symm m2
    clear hg hgl
    rcases hs with rfl | rfl | rfl | rfl
    · have hb : bits BinOp.and IntKind.i64 8 1 = 0 := by decide
      go_wp2_with fail
      exact bodyPost_ret (v := .tuple #[.agg #[.int .i64 0, .int .i64 0, .int .i64 0, .int .i64 0], .int .i64 140]) (by simp [results, Try.results23, go_sem, *]) rfl
        (StepPost.no (fun hh => by have p := hh.2.2; simp [Pos] at p <;> omega) (by repeat (first | with_reducible exact BW.out | with_reducible refine Below.drew ?_ | with_reducible refine Below.setCell ?_ (by simp <;> omega) _)))
    · have hb : bits BinOp.and IntKind.i64 4 1 = 0 := by decide
      go_wp2_with fail
      exact bodyPost_ret (v := .tuple #[.agg #[.int .i64 0, .int .i64 0, .int .i64 0, .int .i64 0], .int .i64 140]) (by simp [results, Try.results23, go_sem, *]) rfl
        (StepPost.no (fun hh => by have p := hh.2.2; simp [Pos] at p <;> omega) (by repeat (first | with_reducible exact BW.out | with_reducible refine Below.drew ?_ | with_reducible refine Below.setCell ?_ (by simp <;> omega) _)))
    · have hb : bits BinOp.and IntKind.i64 2 1 = 0 := by decide
      go_wp2_with fail
      exact bodyPost_ret (v := .tuple #[.agg #[.int .i64 0, .int .i64 0, .int .i64 0, .int .i64 0], .int .i64 140]) (by simp [results, Try.results23, go_sem, *]) rfl
        (StepPost.no (fun hh => by have p := hh.2.2; simp [Pos] at p <;> omega) (by repeat (first | with_reducible exact BW.out | with_reducible refine Below.drew ?_ | with_reducible refine Below.setCell ?_ (by simp <;> omega) _)))
    · have hb : bits BinOp.and IntKind.i64 1 1 = 1 := by decide
      go_wp2_with fail
      go_region
      all_goals
        go_wp2_with fail
        exact bodyPost_ret (v := .tuple #[lnA ⟨1, h, e, a⟩, .int .i64 0]) (by simp [results, Try.results23, go_sem, lnA, *]) rfl
          (StepPost.yes ⟨HV.out, HF.out, by simp [Pos] <;> omega⟩ (by simp [nxt]) (by repeat (first | with_reducible exact BW.out | with_reducible refine Below.drew ?_ | with_reducible refine Below.setCell ?_ (by simp <;> omega) _)))

set_option maxRecDepth 100000 in
set_option maxHeartbeats 4000000 in
theorem lstep_7 (s h e t a x : Int) (w : World) (hv : Vld ⟨s, h, e, t⟩) (hf : Frm ⟨7, a, x⟩) (hta : t ≤ a) : Calls Try.prog 23 #[lnA ⟨s, h, e, t⟩, evA ⟨7, a, x⟩] w (StepPost ⟨s, h, e, t⟩ ⟨7, a, x⟩ w) := by
  obtain ⟨W0, hW0⟩ : ∃ W0, W0 = ((w.alloc (.cells #[.int .i64 s, .int .i64 h, .int .i64 e, .int .i64 t] 26)).alloc (.cells #[.int .i64 7, .int .i64 a, .int .i64 x] 54)).alloc (.cells #[.int .i64 0, .int .i64 0, .int .i64 0, .int .i64 0] 26) := ⟨_, rfl⟩
  have V0 := Lib.hid (show Vars w ⟨s, h, e, t⟩ ⟨7, a, x⟩ W0 by rw [hW0]; exact vars_0 w ⟨s, h, e, t⟩ ⟨7, a, x⟩)
  have HW := Lib.hid hW0
  clear hW0
  obtain ⟨⟨c0, c1, c2, c3⟩, ⟨d0, d1, d2⟩, ⟨z0, z1, z2, z3⟩, ⟨f0, f1, f2, f3⟩, ⟨g0, g1, g2, g3⟩, hlt⟩ := V0.out.cells
  have tv := Lib.hid (vldB_iff.2 hv)
  have tf := Lib.hid (frmB_iff.2 hf)
  have HV := Lib.hid hv
  have HF := Lib.hid hf
  obtain ⟨v1, v2, v3, v4, v5, v6, v7, v8⟩ := hv
  obtain ⟨q1, q2, q3, q4, q5, q6⟩ := hf
  dsimp only at v1 v2 v3 v4 v5 v6 q3 q4
  have hs : s = 0 ∨ s = 1 ∨ s = 2 ∨ s = 3 := by omega
  have ta : decide (a < t) = false := by simp; omega
  have se : IntKind.i64.wrap (e + 1) = e + 1 := IntWalk.i64_in _ (by omega)
  have sd : IntKind.i64.wrap (a - t) = a - t := IntWalk.i64_in _ (by omega)
  clear v1 v2 v7 v8 q1 q2 q5 q6
  unfold lnA evA
  go_enter Try.func23, Try.ntmps23
  go_wp2_with fail
  rw [← HW.out]
  refine (lvalid_any ⟨s, h, e, t⟩ _).mono ?_
  rintro e W1 ⟨rfl, hb1⟩
  rw [tv.out]
  have V1 := Lib.hid (V0.out.later hb1)
  clear c0 c1 c2 c3 d0 d1 d2 z0 z1 z2 z3 f0 f1 f2 f3 g0 g1 g2 g3 hlt hb1
  obtain ⟨⟨c0, c1, c2, c3⟩, ⟨d0, d1, d2⟩, ⟨z0, z1, z2, z3⟩, ⟨f0, f1, f2, f3⟩, ⟨g0, g1, g2, g3⟩, hlt⟩ := V1.out.cells
  go_wp2_with fail
  refine (lformed_any ⟨7, a, x⟩ _).mono ?_
  rintro e W2 ⟨rfl, hb2⟩
  rw [tf.out]
  have V2 := Lib.hid (V1.out.later hb2)
  clear c0 c1 c2 c3 d0 d1 d2 z0 z1 z2 z3 f0 f1 f2 f3 g0 g1 g2 g3 hlt hb2
  obtain ⟨⟨c0, c1, c2, c3⟩, ⟨d0, d1, d2⟩, ⟨z0, z1, z2, z3⟩, ⟨f0, f1, f2, f3⟩, ⟨g0, g1, g2, g3⟩, hlt⟩ := V2.out.cells
  go_wp2_with fail
  have l0 := World.new_ne W2 ⟨w.heap.size + 1, 0, none⟩ d0
  have l1 : w.heap.size + 1 < W2.heap.size := by omega
  have l2 : w.heap.size < W2.heap.size := by omega
  have l3 : W2.heap.size ≠ w.heap.size := by omega
  have l4 : W2.heap.size ≠ w.heap.size + 2 := by omega
  have l5 : W2.heap.size + 1 ≠ w.heap.size + 1 := by omega
  go_cut [6] (fun s6 wx => ∃ g : Nat, s6 = .pointer (some ⟨g, 0, none⟩) ∧ wx.heap[g]? = some (.cells #[.int .i64 8, .int .i64 0, .bool false] 78) ∧ W2.heap.size ≤ g ∧ Below W2.heap.size W2 wx)
  case first =>
    go_region_with ((go_at_call 41; refine (lrules_any _).mono ?_; rintro e w2 ⟨rfl, rfl⟩))
    all_goals
      go_wp2_with fail
      go_meet
      exact ⟨_, rfl, by first | exact two_new W2 _ _ | exact two_old W2 _ _, by first | exact Nat.le_refl _ | exact Nat.le_succ _, (below_new2 W2 _ _).drew⟩
  case rest =>
    obtain ⟨g, rfl, hg, hgl, hbx⟩ := hcut
    have V3 := Lib.hid (V2.out.later hbx)
    have BW := Lib.hid V3.out.2.2.2
    have HG := Lib.hid hg
    clear c0 c1 c2 c3 d0 d1 d2 z0 z1 z2 z3 f0 f1 f2 f3 g0 g1 g2 g3 hlt l0 l1 l2 l3 l4 l5 hbx
    obtain ⟨⟨c0, c1, c2, c3⟩, ⟨d0, d1, d2⟩, ⟨z0, z1, z2, z3⟩, ⟨f0, f1, f2, f3⟩, ⟨g0, g1, g2, g3⟩, hlt⟩ := V3.out.cells
    have r0 := gcell (cs := [.int .i64 8, .int .i64 0, .bool false]) hg (i := 0) rfl
    have r1 := gcell (cs := [.int .i64 8, .int .i64 0, .bool false]) hg (i := 1) rfl
    have r2 := gcell (cs := [.int .i64 8, .int .i64 0, .bool false]) hg (i := 2) rfl
    have m0 : g ≠ w.heap.size := by have := V2.out.cells.2.2.2.2.2; omega
    have m2 : g ≠ w.heap.size + 2 := by have := V2.out.cells.2.2.2.2.2; omega
    have m1 : g ≠ w.heap.size + 1 := by have := V2.out.cells.2.2.2.2.2; omega
    have m3 := Ne.symm m0
    have m4 := Ne.symm m1
    have m5 := Ne.symm m2
    clear hg hgl
    rcases hs with rfl | rfl | rfl | rfl
    · have hb : bits BinOp.and IntKind.i64 8 1 = 0 := by decide
      go_wp2_with fail
      exact bodyPost_ret (v := .tuple #[.agg #[.int .i64 0, .int .i64 0, .int .i64 0, .int .i64 0], .int .i64 140]) (by simp [results, Try.results23, go_sem, *]) rfl
        (StepPost.no (fun hh => by have p := hh.2.2; simp [Pos] at p <;> omega) (by repeat (first | with_reducible exact BW.out | with_reducible refine Below.drew ?_ | with_reducible refine Below.setCell ?_ (by simp <;> omega) _)))
    · have hb : bits BinOp.and IntKind.i64 4 1 = 0 := by decide
      go_wp2_with fail
      exact bodyPost_ret (v := .tuple #[.agg #[.int .i64 0, .int .i64 0, .int .i64 0, .int .i64 0], .int .i64 140]) (by simp [results, Try.results23, go_sem, *]) rfl
        (StepPost.no (fun hh => by have p := hh.2.2; simp [Pos] at p <;> omega) (by repeat (first | with_reducible exact BW.out | with_reducible refine Below.drew ?_ | with_reducible refine Below.setCell ?_ (by simp <;> omega) _)))
    · have hb : bits BinOp.and IntKind.i64 2 1 = 0 := by decide
      go_wp2_with fail
      exact bodyPost_ret (v := .tuple #[.agg #[.int .i64 0, .int .i64 0, .int .i64 0, .int .i64 0], .int .i64 140]) (by simp [results, Try.results23, go_sem, *]) rfl
        (StepPost.no (fun hh => by have p := hh.2.2; simp [Pos] at p <;> omega) (by repeat (first | with_reducible exact BW.out | with_reducible refine Below.drew ?_ | with_reducible refine Below.setCell ?_ (by simp <;> omega) _)))
    · have hb : bits BinOp.and IntKind.i64 1 1 = 1 := by decide
      by_cases ha : a - t < 2592000
      · have td : decide (a - t < 2592000) = true := by simp; omega
        go_wp2_with fail
        exact bodyPost_ret (v := .tuple #[.agg #[.int .i64 0, .int .i64 0, .int .i64 0, .int .i64 0], .int .i64 140]) (by simp [results, Try.results23, go_sem, *]) rfl
          (StepPost.no (fun hh => by have p := hh.2.2; simp [Pos] at p <;> omega) (by repeat (first | with_reducible exact BW.out | with_reducible refine Below.drew ?_ | with_reducible refine Below.setCell ?_ (by simp <;> omega) _)))
      have td : decide (a - t < 2592000) = false := by simp; omega
      go_wp2_with fail
      go_region
      all_goals
        go_wp2_with fail
        exact bodyPost_ret (v := .tuple #[lnA ⟨0, -1, e, a⟩, .int .i64 0]) (by simp [results, Try.results23, go_sem, lnA, *]) rfl
          (StepPost.yes ⟨HV.out, HF.out, by simp [Pos] <;> omega⟩ (by simp [nxt]) (by repeat (first | with_reducible exact BW.out | with_reducible refine Below.drew ?_ | with_reducible refine Below.setCell ?_ (by simp <;> omega) _)))
/-- what Step returns -/
theorem lstep_any (l : Ln) (x : Ev) (w : World) : Calls Try.prog 23 #[lnA l, evA x] w (StepPost l x w) := by
  by_cases h : Vld l ∧ Frm x ∧ l.t ≤ x.a
  · obtain ⟨s, h0, e, t⟩ := l
    obtain ⟨k, a, x⟩ := x
    obtain ⟨hv, hf, ht⟩ := h
    have hk : k = 1 ∨ k = 2 ∨ k = 3 ∨ k = 4 ∨ k = 5 ∨ k = 6 ∨ k = 7 := by have h1 := hf.1; have h2 := hf.2.1; dsimp only at h1 h2; omega
    rcases hk with rfl | rfl | rfl | rfl | rfl | rfl | rfl
    · exact lstep_1 s h0 e t a x w hv hf ht
    · exact lstep_2 s h0 e t a x w hv hf ht
    · exact lstep_3 s h0 e t a x w hv hf ht
    · exact lstep_4 s h0 e t a x w hv hf ht
    · exact lstep_5 s h0 e t a x w hv hf ht
    · exact lstep_6 s h0 e t a x w hv hf ht
    · exact lstep_7 s h0 e t a x w hv hf ht
  · exact lstep_bad l x w h
end Go.Proofs.Ytjhakonpnopcnaa
