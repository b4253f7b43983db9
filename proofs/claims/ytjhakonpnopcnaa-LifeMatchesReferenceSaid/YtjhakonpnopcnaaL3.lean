/-
  life.Step.
-/
import Derived.Test.YtjhakonpnopcnaaL2
import Derived.RegionTactic
import Derived.BigRegion
import Derived.ChangeAlike
set_option linter.unusedVariables false
set_option linter.unusedSimpArgs false
namespace Go.Proofs.Ytjhakonpnopcnaa
open Go Go.RowKit Go.Dial Go.Dial.Lif

def StepPost (l : Ln) (x : Ev) (w : World) (e : Ending) (w' : World) : Prop := e = .returned (.tuple #[lnA (stepR l x).1, .int .i64 (stepR l x).2]) ∧ Below w.heap.size w w'
theorem StepPost.no {l : Ln} {x : Ev} {w w' : World} (h : ¬ Ok l x) (hb : Below w.heap.size w w') : StepPost l x w (.returned (.tuple #[.agg #[.int .i64 0, .int .i64 0, .int .i64 0, .int .i64 0], .int .i64 140])) w' := by
  refine ⟨?_, hb⟩; rw [stepR_no h]; rfl
theorem StepPost.yes {l m : Ln} {x : Ev} {w w' : World} (h : Ok l x) (hm : nxt l x = m) (hb : Below w.heap.size w w') : StepPost l x w (.returned (.tuple #[lnA m, .int .i64 0])) w' := by
  refine ⟨?_, hb⟩; rw [stepR_ok h, hm]
theorem two_new (W : World) (a b : Obj) : ((W.alloc a).alloc b).heap[W.heap.size + 1]? = some b := by
  have := newcell (W.alloc a) b; rwa [World.size_alloc] at this
theorem two_old (W : World) (a b : Obj) : ((W.alloc a).alloc b).heap[W.heap.size]? = some a := oldcell _ (newcell _ _)
/-- the three variables of Step -/
def Vars (w : World) (l : Ln) (x : Ev) (W : World) : Prop :=
  W.heap[w.heap.size]? = some (.cells #[.int .i64 l.s, .int .i64 l.h, .int .i64 l.e, .int .i64 l.t] 26) ∧ W.heap[w.heap.size + 1]? = some (.cells #[.int .i64 x.k, .int .i64 x.a, .int .i64 x.h] 54) ∧
    W.heap[w.heap.size + 2]? = some (.cells #[.int .i64 0, .int .i64 0, .int .i64 0, .int .i64 0] 26) ∧ Below w.heap.size w W
theorem vars_0 (w : World) (l : Ln) (x : Ev) : Vars w l x (((w.alloc (.cells #[.int .i64 l.s, .int .i64 l.h, .int .i64 l.e, .int .i64 l.t] 26)).alloc (.cells #[.int .i64 x.k, .int .i64 x.a, .int .i64 x.h] 54)).alloc (.cells #[.int .i64 0, .int .i64 0, .int .i64 0, .int .i64 0] 26)) := by
  refine ⟨oldcell _ (oldcell _ (newcell _ _)), oldcell _ ?_, ?_, below_new3 _ _ _ _⟩
  · have := newcell (w.alloc (.cells #[.int .i64 l.s, .int .i64 l.h, .int .i64 l.e, .int .i64 l.t] 26)) (.cells #[.int .i64 x.k, .int .i64 x.a, .int .i64 x.h] 54)
    simpa using this
  · have := newcell ((w.alloc (.cells #[.int .i64 l.s, .int .i64 l.h, .int .i64 l.e, .int .i64 l.t] 26)).alloc (.cells #[.int .i64 x.k, .int .i64 x.a, .int .i64 x.h] 54)) (.cells #[.int .i64 0, .int .i64 0, .int .i64 0, .int .i64 0] 26)
    simpa using this
theorem Vars.later {w W W' : World} {l : Ln} {x : Ev} (h : Vars w l x W) (hb : Below W.heap.size W W') : Vars w l x W' :=
  ⟨keepcell h.1 hb, keepcell h.2.1 hb, keepcell h.2.2.1 hb, below_then h.2.2.2 hb⟩
theorem Vars.cells {w W : World} {l : Ln} {x : Ev} (h : Vars w l x W) :
    (W.cell? ⟨w.heap.size, 0, none⟩ = some (.int .i64 l.s) ∧ W.cell? ⟨w.heap.size, 1, none⟩ = some (.int .i64 l.h) ∧ W.cell? ⟨w.heap.size, 2, none⟩ = some (.int .i64 l.e) ∧ W.cell? ⟨w.heap.size, 3, none⟩ = some (.int .i64 l.t)) ∧
    (W.cell? ⟨w.heap.size + 1, 0, none⟩ = some (.int .i64 x.k) ∧ W.cell? ⟨w.heap.size + 1, 1, none⟩ = some (.int .i64 x.a) ∧ W.cell? ⟨w.heap.size + 1, 2, none⟩ = some (.int .i64 x.h)) ∧
    (W.cell? ⟨w.heap.size + 2, 0, none⟩ = some (.int .i64 0) ∧ W.cell? ⟨w.heap.size + 2, 1, none⟩ = some (.int .i64 0) ∧ W.cell? ⟨w.heap.size + 2, 2, none⟩ = some (.int .i64 0) ∧ W.cell? ⟨w.heap.size + 2, 3, none⟩ = some (.int .i64 0)) ∧
    (W.frozen? ⟨w.heap.size, 0, none⟩ = false ∧ W.frozen? ⟨w.heap.size, 1, none⟩ = false ∧ W.frozen? ⟨w.heap.size, 2, none⟩ = false ∧ W.frozen? ⟨w.heap.size, 3, none⟩ = false) ∧
    (W.frozen? ⟨w.heap.size + 2, 0, none⟩ = false ∧ W.frozen? ⟨w.heap.size + 2, 1, none⟩ = false ∧ W.frozen? ⟨w.heap.size + 2, 2, none⟩ = false ∧ W.frozen? ⟨w.heap.size + 2, 3, none⟩ = false) ∧ w.heap.size + 2 < W.heap.size := by
  obtain ⟨h0, h1, h2, _⟩ := h
  refine ⟨⟨?_, ?_, ?_, ?_⟩, ⟨?_, ?_, ?_⟩, ⟨?_, ?_, ?_, ?_⟩, ⟨?_, ?_, ?_, ?_⟩, ⟨?_, ?_, ?_, ?_⟩, heap_lt h2⟩ <;> simp [World.cell?, World.frozen?, h0, h1, h2]
/-- an event that is not formed, a line that is not valid, or an event before the line -/
theorem lstep_bad (l : Ln) (x : Ev) (w : World) (h : ¬ (Vld l ∧ Frm x ∧ l.t ≤ x.a)) : Calls Try.prog 23 #[lnA l, evA x] w (StepPost l x w) := by
  have hno := Lib.hid (show ¬ Ok l x from fun hh => h ⟨hh.1, hh.2.1, hh.2.2.1⟩)
  obtain ⟨W0, hW0⟩ : ∃ W0, W0 = ((w.alloc (.cells #[.int .i64 l.s, .int .i64 l.h, .int .i64 l.e, .int .i64 l.t] 26)).alloc (.cells #[.int .i64 x.k, .int .i64 x.a, .int .i64 x.h] 54)).alloc (.cells #[.int .i64 0, .int .i64 0, .int .i64 0, .int .i64 0] 26) := ⟨_, rfl⟩
  have V0 := Lib.hid (show Vars w l x W0 by rw [hW0]; exact vars_0 w l x)
  have HW := Lib.hid hW0
  clear hW0
  obtain ⟨⟨c0, c1, c2, c3⟩, ⟨d0, d1, d2⟩, ⟨z0, z1, z2, z3⟩, ⟨f0, f1, f2, f3⟩, ⟨g0, g1, g2, g3⟩, hlt⟩ := V0.out.cells
  by_cases hv : Vld l
  · have tv := Lib.hid (vldB_iff.2 hv)
    by_cases hf : Frm x
    · have tf := Lib.hid (frmB_iff.2 hf)
      have hta : x.a < l.t := by
        rcases Int.lt_or_le x.a l.t with h1 | h1
        · exact h1
        · exact absurd ⟨hv, hf, h1⟩ h
      clear h hv hf
      unfold lnA evA
      go_enter Try.func23, Try.ntmps23
      go_wp2_with fail
      rw [← HW.out]
      refine (lvalid_any l _).mono ?_
      rintro e W1 ⟨rfl, hb1⟩
      rw [tv.out]
      have V1 := Lib.hid (V0.out.later hb1)
      clear c0 c1 c2 c3 d0 d1 d2 z0 z1 z2 z3 f0 f1 f2 f3 g0 g1 g2 g3 hlt hb1
      obtain ⟨⟨c0, c1, c2, c3⟩, ⟨d0, d1, d2⟩, ⟨z0, z1, z2, z3⟩, ⟨f0, f1, f2, f3⟩, ⟨g0, g1, g2, g3⟩, hlt⟩ := V1.out.cells
      go_wp2_with fail
      refine (lformed_any x _).mono ?_
      rintro e W2 ⟨rfl, hb2⟩
      rw [tf.out]
      have V2 := Lib.hid (V1.out.later hb2)
      clear c0 c1 c2 c3 d0 d1 d2 z0 z1 z2 z3 f0 f1 f2 f3 g0 g1 g2 g3 hlt hb2
      obtain ⟨⟨c0, c1, c2, c3⟩, ⟨d0, d1, d2⟩, ⟨z0, z1, z2, z3⟩, ⟨f0, f1, f2, f3⟩, ⟨g0, g1, g2, g3⟩, hlt⟩ := V2.out.cells
      go_wp2_with fail
      exact bodyPost_ret (v := .tuple #[.agg #[.int .i64 0, .int .i64 0, .int .i64 0, .int .i64 0], .int .i64 140]) (by simp [results, Try.results23, go_sem, *]) rfl (StepPost.no hno.out ((((V2.out.2.2.2.setCell (by simp <;> omega) _).setCell (by simp <;> omega) _).setCell (by simp <;> omega) _).setCell (by simp <;> omega) _))
    · have tf := Lib.hid (Bool.eq_false_iff.2 (fun e => hf (frmB_iff.1 e)))
      clear h hv hf
      unfold lnA evA
      go_enter Try.func23, Try.ntmps23
      go_wp2_with fail
      rw [← HW.out]
      refine (lvalid_any l _).mono ?_
      rintro e W1 ⟨rfl, hb1⟩
      rw [tv.out]
      have V1 := Lib.hid (V0.out.later hb1)
      clear c0 c1 c2 c3 d0 d1 d2 z0 z1 z2 z3 f0 f1 f2 f3 g0 g1 g2 g3 hlt hb1
      obtain ⟨⟨c0, c1, c2, c3⟩, ⟨d0, d1, d2⟩, ⟨z0, z1, z2, z3⟩, ⟨f0, f1, f2, f3⟩, ⟨g0, g1, g2, g3⟩, hlt⟩ := V1.out.cells
      go_wp2_with fail
      refine (lformed_any x _).mono ?_
      rintro e W2 ⟨rfl, hb2⟩
      rw [tf.out]
      have V2 := Lib.hid (V1.out.later hb2)
      clear c0 c1 c2 c3 d0 d1 d2 z0 z1 z2 z3 f0 f1 f2 f3 g0 g1 g2 g3 hlt hb2
      obtain ⟨⟨c0, c1, c2, c3⟩, ⟨d0, d1, d2⟩, ⟨z0, z1, z2, z3⟩, ⟨f0, f1, f2, f3⟩, ⟨g0, g1, g2, g3⟩, hlt⟩ := V2.out.cells
      go_wp2_with fail
      exact bodyPost_ret (v := .tuple #[.agg #[.int .i64 0, .int .i64 0, .int .i64 0, .int .i64 0], .int .i64 140]) (by simp [results, Try.results23, go_sem, *]) rfl (StepPost.no hno.out ((((V2.out.2.2.2.setCell (by simp <;> omega) _).setCell (by simp <;> omega) _).setCell (by simp <;> omega) _).setCell (by simp <;> omega) _))
  · have tv := Lib.hid (Bool.eq_false_iff.2 (fun e => hv (vldB_iff.1 e)))
    clear h hv
    unfold lnA evA
    go_enter Try.func23, Try.ntmps23
    go_wp2_with fail
    rw [← HW.out]
    refine (lvalid_any l _).mono ?_
    rintro e W1 ⟨rfl, hb1⟩
    rw [tv.out]
    have V1 := Lib.hid (V0.out.later hb1)
    clear c0 c1 c2 c3 d0 d1 d2 z0 z1 z2 z3 f0 f1 f2 f3 g0 g1 g2 g3 hlt hb1
    obtain ⟨⟨c0, c1, c2, c3⟩, ⟨d0, d1, d2⟩, ⟨z0, z1, z2, z3⟩, ⟨f0, f1, f2, f3⟩, ⟨g0, g1, g2, g3⟩, hlt⟩ := V1.out.cells
    go_wp2_with fail
    exact bodyPost_ret (v := .tuple #[.agg #[.int .i64 0, .int .i64 0, .int .i64 0, .int .i64 0], .int .i64 140]) (by simp [results, Try.results23, go_sem, *]) rfl (StepPost.no hno.out ((((V1.out.2.2.2.setCell (by simp <;> omega) _).setCell (by simp <;> omega) _).setCell (by simp <;> omega) _).setCell (by simp <;> omega) _))

set_option maxRecDepth 100000 in
set_option maxHeartbeats 4000000 in
theorem lstep_1 (s h e t a x : Int) (w : World) (hv : Vld ⟨s, h, e, t⟩) (hf : Frm ⟨1, a, x⟩) (hta : t ≤ a) : Calls Try.prog 23 #[lnA ⟨s, h, e, t⟩, evA ⟨1, a, x⟩] w (StepPost ⟨s, h, e, t⟩ ⟨1, a, x⟩ w) := by
  obtain ⟨W0, hW0⟩ : ∃ W0, W0 = ((w.alloc (.cells #[.int .i64 s, .int .i64 h, .int .i64 e, .int .i64 t] 26)).alloc (.cells #[.int .i64 1, .int .i64 a, .int .i64 x] 54)).alloc (.cells #[.int .i64 0, .int .i64 0, .int .i64 0, .int .i64 0] 26) := ⟨_, rfl⟩
  have V0 := Lib.hid (show Vars w ⟨s, h, e, t⟩ ⟨1, a, x⟩ W0 by rw [hW0]; exact vars_0 w ⟨s, h, e, t⟩ ⟨1, a, x⟩)
  have HW := Lib.hid hW0
  clear hW0
  obtain ⟨⟨c0, c1, c2, c3⟩, ⟨d0, d1, d2⟩, ⟨z0, z1, z2, z3⟩, ⟨f0, f1, f2, f3⟩, ⟨g0, g1, g2, g3⟩, hlt⟩ := V0.out.cells
  have tv := Lib.hid (vldB_iff.2 hv)
  have tf := Lib.hid (frmB_iff.2 hf)
  have HV := Lib.hid hv
  have HF := Lib.hid hf
  obtain ⟨v1, v2, v3, v4, v5, v6, v7, v8⟩ := hv
  obtain ⟨q1, q2, q3, q4, q5, q6⟩ := hf
  dsimp only at v1 v2 v3 v4 v5 v6 q3 q4
  have hs : s = 0 ∨ s = 1 ∨ s = 2 ∨ s = 3 := by omega
  have ta : decide (a < t) = false := by simp; omega
  have se : IntKind.i64.wrap (e + 1) = e + 1 := IntWalk.i64_in _ (by omega)
  have sd : IntKind.i64.wrap (a - t) = a - t := IntWalk.i64_in _ (by omega)
  clear v1 v2 v7 v8 q1 q2 q5 q6
  unfold lnA evA
  go_enter Try.func23, Try.ntmps23
  go_wp2_with fail
  rw [← HW.out]
  refine (lvalid_any ⟨s, h, e, t⟩ _).mono ?_
  rintro e W1 ⟨rfl, hb1⟩
  rw [tv.out]
  have V1 := Lib.hid (V0.out.later hb1)
  clear c0 c1 c2 c3 d0 d1 d2 z0 z1 z2 z3 f0 f1 f2 f3 g0 g1 g2 g3 hlt hb1
  obtain ⟨⟨c0, c1, c2, c3⟩, ⟨d0, d1, d2⟩, ⟨z0, z1, z2, z3⟩, ⟨f0, f1, f2, f3⟩, ⟨g0, g1, g2, g3⟩, hlt⟩ := V1.out.cells
  go_wp2_with fail
  refine (lformed_any ⟨1, a, x⟩ _).mono ?_
  rintro e W2 ⟨rfl, hb2⟩
  rw [tf.out]
  have V2 := Lib.hid (V1.out.later hb2)
  clear c0 c1 c2 c3 d0 d1 d2 z0 z1 z2 z3 f0 f1 f2 f3 g0 g1 g2 g3 hlt hb2
  obtain ⟨⟨c0, c1, c2, c3⟩, ⟨d0, d1, d2⟩, ⟨z0, z1, z2, z3⟩, ⟨f0, f1, f2, f3⟩, ⟨g0, g1, g2, g3⟩, hlt⟩ := V2.out.cells
  go_wp2_with fail
  have l0 := World.new_ne W2 ⟨w.heap.size + 1, 0, none⟩ d0
  have l1 : w.heap.size + 1 < W2.heap.size := by omega
  have l2 : w.heap.size < W2.heap.size := by omega
  have l3 : W2.heap.size ≠ w.heap.size := by omega
  have l4 : W2.heap.size ≠ w.heap.size + 2 := by omega
  have l5 : W2.heap.size + 1 ≠ w.heap.size + 1 := by omega
  go_cut [6] (fun s6 wx => ∃ g : Nat, s6 = .pointer (some ⟨g, 0, none⟩) ∧ wx.heap[g]? = some (.cells #[.int .i64 1, .int .i64 1, .bool true] 78) ∧ W2.heap.size ≤ g ∧ Below W2.heap.size W2 wx)
  case first =>
    go_region_with ((go_at_call 41; refine (lrules_any _).mono ?_; rintro e w2 ⟨rfl, rfl⟩))
    all_goals
      go_wp2_with fail
      go_meet
      exact ⟨_, rfl, by first | exact two_new W2 _ _ | exact two_old W2 _ _, by first | exact Nat.le_refl _ | exact Nat.le_succ _, (below_new2 W2 _ _).drew⟩
  case rest =>
    obtain ⟨g, rfl, hg, hgl, hbx⟩ := hcut
    have V3 := Lib.hid (V2.out.later hbx)
    have BW := Lib.hid V3.out.2.2.2
    have HG := Lib.hid hg
    clear c0 c1 c2 c3 d0 d1 d2 z0 z1 z2 z3 f0 f1 f2 f3 g0 g1 g2 g3 hlt l0 l1 l2 l3 l4 l5 hbx
    obtain ⟨⟨c0, c1, c2, c3⟩, ⟨d0, d1, d2⟩, ⟨z0, z1, z2, z3⟩, ⟨f0, f1, f2, f3⟩, ⟨g0, g1, g2, g3⟩, hlt⟩ := V3.out.cells
    have r0 := gcell (cs := [.int .i64 1, .int .i64 1, .bool true]) hg (i := 0) rfl
    have r1 := gcell (cs := [.int .i64 1, .int .i64 1, .bool true]) hg (i := 1) rfl
    have r2 := gcell (cs := [.int .i64 1, .int .i64 1, .bool true]) hg (i := 2) rfl
    have m0 : g ≠ w.heap.size := by have := V2.out.cells.2.2.2.2.2; omega
    have m2 : g ≠ w.heap.size + 2 := by have := V2.out.cells.2.2.2.2.2; omega
    have m1 : g ≠ w.heap.size + 1 := by have := V2.out.cells.2.2.2.2.2; omega
    have m3 := Ne.symm m0
    have m4 := Ne.symm m1
    have m5 := Ne.symm m2
    clear hg hgl
    rcases hs with rfl | rfl | rfl | rfl
    · have hb : bits BinOp.and IntKind.i64 1 1 = 1 := by decide
      by_cases e9 : e = 1000
      · have te : (e == 1000) = true := by simp [e9]
        go_wp2_with fail
        exact bodyPost_ret (v := .tuple #[.agg #[.int .i64 0, .int .i64 0, .int .i64 0, .int .i64 0], .int .i64 140]) (by simp [results, Try.results23, go_sem, *]) rfl
          (StepPost.no (fun hh => by have p := hh.2.2; simp [Pos] at p <;> omega) (by repeat (first | with_reducible exact BW.out | with_reducible refine Below.drew ?_ | with_reducible refine Below.setCell ?_ (by simp <;> omega) _)))
      have te : (e == 1000) = false := by simp [e9]
      by_cases hx : h = x
      · exfalso
        have p1 := HV.out.2.2.2.2.2.2.1 rfl
        have p2 := (HF.out.2.2.2.2.1 (.inl rfl)).1
        dsimp only at p1 p2
        omega
      have tx : (h == x) = false := by simp [hx]
      go_wp2_with fail
      go_region
      all_goals
        go_wp2_with fail
        exact bodyPost_ret (v := .tuple #[lnA ⟨1, x, e + 1, a⟩, .int .i64 0]) (by simp [results, Try.results23, go_sem, lnA, *]) rfl
          (StepPost.yes ⟨HV.out, HF.out, by simp [Pos] <;> omega⟩ (by simp [nxt]) (by repeat (first | with_reducible exact BW.out | with_reducible refine Below.drew ?_ | with_reducible refine Below.setCell ?_ (by simp <;> omega) _)))
    · have hb : bits BinOp.and IntKind.i64 0 1 = 0 := by decide
      go_wp2_with fail
      exact bodyPost_ret (v := .tuple #[.agg #[.int .i64 0, .int .i64 0, .int .i64 0, .int .i64 0], .int .i64 140]) (by simp [results, Try.results23, go_sem, *]) rfl
        (StepPost.no (fun hh => by have p := hh.2.2; simp [Pos] at p <;> omega) (by repeat (first | with_reducible exact BW.out | with_reducible refine Below.drew ?_ | with_reducible refine Below.setCell ?_ (by simp <;> omega) _)))
    · have hb : bits BinOp.and IntKind.i64 0 1 = 0 := by decide
      go_wp2_with fail
      exact bodyPost_ret (v := .tuple #[.agg #[.int .i64 0, .int .i64 0, .int .i64 0, .int .i64 0], .int .i64 140]) (by simp [results, Try.results23, go_sem, *]) rfl
        (StepPost.no (fun hh => by have p := hh.2.2; simp [Pos] at p <;> omega) (by repeat (first | with_reducible exact BW.out | with_reducible refine Below.drew ?_ | with_reducible refine Below.setCell ?_ (by simp <;> omega) _)))
    · have hb : bits BinOp.and IntKind.i64 0 1 = 0 := by decide
      go_wp2_with fail
      exact bodyPost_ret (v := .tuple #[.agg #[.int .i64 0, .int .i64 0, .int .i64 0, .int .i64 0], .int .i64 140]) (by simp [results, Try.results23, go_sem, *]) rfl
        (StepPost.no (fun hh => by have p := hh.2.2; simp [Pos] at p <;> omega) (by repeat (first | with_reducible exact BW.out | with_reducible refine Below.drew ?_ | with_reducible refine Below.setCell ?_ (by simp <;> omega) _)))

set_option maxRecDepth 100000 in
set_option maxHeartbeats 4000000 in
theorem lstep_2 (s h e t a x : Int) (w : World) (hv : Vld ⟨s, h, e, t⟩) (hf : Frm ⟨2, a, x⟩) (hta : t ≤ a) : Calls Try.prog 23 #[lnA ⟨s, h, e, t⟩, evA ⟨2, a, x⟩] w (StepPost ⟨s, h, e, t⟩ ⟨2, a, x⟩ w) := by
  obtain ⟨W0, hW0⟩ : ∃ W0, W0 = ((w.alloc (.cells #[.int .i64 s, .int .i64 h, .int .i64 e, .int .i64 t] 26)).alloc (.cells #[.int .i64 2, .int .i64 a, .int .i64 x] 54)).alloc (.cells #[.int .i64 0, .int .i64 0, .int .i64 0, .int .i64 0] 26) := ⟨_, rfl⟩
  have V0 := Lib.hid (show Vars w ⟨s, h, e, t⟩ ⟨2, a, x⟩ W0 by rw [hW0]; exact vars_0 w ⟨s, h, e, t⟩ ⟨2, a, x⟩)
  have HW := Lib.hid hW0
  clear hW0
  obtain ⟨⟨c0, c1, c2, c3⟩, ⟨d0, d1, d2⟩, ⟨z0, z1, z2, z3⟩, ⟨f0, f1, f2, f3⟩, ⟨g0, g1, g2, g3⟩, hlt⟩ := V0.out.cells
  have tv := Lib.hid (vldB_iff.2 hv)
  have tf := Lib.hid (frmB_iff.2 hf)
  have HV := Lib.hid hv
  have HF := Lib.hid hf
  obtain ⟨v1, v2, v3, v4, v5, v6, v7, v8⟩ := hv
  obtain ⟨q1, q2, q3, q4, q5, q6⟩ := hf
  dsimp only at v1 v2 v3 v4 v5 v6 q3 q4
  have hs : s = 0 ∨ s = 1 ∨ s = 2 ∨ s = 3 := by omega
  have ta : decide (a < t) = false := by simp; omega
  have se : IntKind.i64.wrap (e + 1) = e + 1 := IntWalk.i64_in _ (by omega)
  have sd : IntKind.i64.wrap (a - t) = a - t := IntWalk.i64_in _ (by omega)
  clear v1 v2 v7 v8 q1 q2 q5 q6
  unfold lnA evA
  go_enter Try.func23, Try.ntmps23
  go_wp2_with fail
  rw [← HW.out]
  refine (lvalid_any ⟨s, h, e, t⟩ _).mono ?_
  rintro e W1 ⟨rfl, hb1⟩
  rw [tv.out]
  have V1 := Lib.hid (V0.out.later hb1)
  clear c0 c1 c2 c3 d0 d1 d2 z0 z1 z2 z3 f0 f1 f2 f3 g0 g1 g2 g3 hlt hb1
  obtain ⟨⟨c0, c1, c2, c3⟩, ⟨d0, d1, d2⟩, ⟨z0, z1, z2, z3⟩, ⟨f0, f1, f2, f3⟩, ⟨g0, g1, g2, g3⟩, hlt⟩ := V1.out.cells
  go_wp2_with fail
  refine (lformed_any ⟨2, a, x⟩ _).mono ?_
  rintro e W2 ⟨rfl, hb2⟩
  rw [tf.out]
  have V2 := Lib.hid (V1.out.later hb2)
  clear c0 c1 c2 c3 d0 d1 d2 z0 z1 z2 z3 f0 f1 f2 f3 g0 g1 g2 g3 hlt hb2
  obtain ⟨⟨c0, c1, c2, c3⟩, ⟨d0, d1, d2⟩, ⟨z0, z1, z2, z3⟩, ⟨f0, f1, f2, f3⟩, ⟨g0, g1, g2, g3⟩, hlt⟩ := V2.out.cells
  go_wp2_with fail
  have l0 := World.new_ne W2 ⟨w.heap.size + 1, 0, none⟩ d0
  have l1 : w.heap.size + 1 < W2.heap.size := by omega
  have l2 : w.heap.size < W2.heap.size := by omega
  have l3 : W2.heap.size ≠ w.heap.size := by omega
  have l4 : W2.heap.size ≠ w.heap.size + 2 := by omega
  have l5 : W2.heap.size + 1 ≠ w.heap.size + 1 := by omega
  go_cut [6] (fun s6 wx => ∃ g : Nat, s6 = .pointer (some ⟨g, 0, none⟩) ∧ wx.heap[g]? = some (.cells #[.int .i64 2, .int .i64 1, .bool true] 78) ∧ W2.heap.size ≤ g ∧ Below W2.heap.size W2 wx)
  case first =>
    go_region_with ((go_at_call 41; refine (lrules_any _).mono ?_; rintro e w2 ⟨rfl, rfl⟩))
    all_goals
      go_wp2_with fail
      go_meet
      exact ⟨_, rfl, by first | exact two_new W2 _ _ | exact two_old W2 _ _, by first | exact Nat.le_refl _ | exact Nat.le_succ _, (below_new2 W2 _ _).drew⟩
  case rest =>
    obtain ⟨g, rfl, hg, hgl, hbx⟩ := hcut
    have V3 := Lib.hid (V2.out.later hbx)
    have BW := Lib.hid V3.out.2.2.2
    have HG := Lib.hid hg
    clear c0 c1 c2 c3 d0 d1 d2 z0 z1 z2 z3 f0 f1 f2 f3 g0 g1 g2 g3 hlt l0 l1 l2 l3 l4 l5 hbx
    obtain ⟨⟨c0, c1, c2, c3⟩, ⟨d0, d1, d2⟩, ⟨z0, z1, z2, z3⟩, ⟨f0, f1, f2, f3⟩, ⟨g0, g1, g2, g3⟩, hlt⟩ := V3.out.cells
    have r0 := gcell (cs := [.int .i64 2, .int .i64 1, .bool true]) hg (i := 0) rfl
    have r1 := gcell (cs := [.int .i64 2, .int .i64 1, .bool true]) hg (i := 1) rfl
    have r2 := gcell (cs := [.int .i64 2, .int .i64 1, .bool true]) hg (i := 2) rfl
    have m0 : g ≠ w.heap.size := by have := V2.out.cells.2.2.2.2.2; omega
    have m2 : g ≠ w.heap.size + 2 := by have := V2.out.cells.2.2.2.2.2; omega
    have m1 : g ≠ w.heap.size + 1 := by have := V2.out.cells.2.2.2.2.2; omega
    have m3 := Ne.symm m0
    have m4 := Ne.symm m1
    have m5 := Ne.symm m2
    clear hg hgl
    rcases hs with rfl | rfl | rfl | rfl
    · have hb : bits BinOp.and IntKind.i64 2 1 = 0 := by decide
      go_wp2_with fail
      exact bodyPost_ret (v := .tuple #[.agg #[.int .i64 0, .int .i64 0, .int .i64 0, .int .i64 0], .int .i64 140]) (by simp [results, Try.results23, go_sem, *]) rfl
        (StepPost.no (fun hh => by have p := hh.2.2; simp [Pos] at p <;> omega) (by repeat (first | with_reducible exact BW.out | with_reducible refine Below.drew ?_ | with_reducible refine Below.setCell ?_ (by simp <;> omega) _)))
    · have hb : bits BinOp.and IntKind.i64 1 1 = 1 := by decide
      by_cases e9 : e = 1000
      · have te : (e == 1000) = true := by simp [e9]
        go_wp2_with fail
        exact bodyPost_ret (v := .tuple #[.agg #[.int .i64 0, .int .i64 0, .int .i64 0, .int .i64 0], .int .i64 140]) (by simp [results, Try.results23, go_sem, *]) rfl
          (StepPost.no (fun hh => by have p := hh.2.2; simp [Pos] at p <;> omega) (by repeat (first | with_reducible exact BW.out | with_reducible refine Below.drew ?_ | with_reducible refine Below.setCell ?_ (by simp <;> omega) _)))
      have te : (e == 1000) = false := by simp [e9]
      by_cases hx : h = x
      · have tx : (h == x) = true := by simp [hx]
        go_wp2_with fail
        exact bodyPost_ret (v := .tuple #[.agg #[.int .i64 0, .int .i64 0, .int .i64 0, .int .i64 0], .int .i64 140]) (by simp [results, Try.results23, go_sem, *]) rfl
          (StepPost.no (fun hh => by have p := hh.2.2; simp [Pos] at p <;> omega) (by repeat (first | with_reducible exact BW.out | with_reducible refine Below.drew ?_ | with_reducible refine Below.setCell ?_ (by simp <;> omega) _)))
      have tx : (h == x) = false := by simp [hx]
      go_wp2_with fail
      go_region
      all_goals
        go_wp2_with fail
        exact bodyPost_ret (v := .tuple #[lnA ⟨1, x, e + 1, a⟩, .int .i64 0]) (by simp [results, Try.results23, go_sem, lnA, *]) rfl
          (StepPost.yes ⟨HV.out, HF.out, by simp [Pos] <;> omega⟩ (by simp [nxt]) (by repeat (first | with_reducible exact BW.out | with_reducible refine Below.drew ?_ | with_reducible refine Below.setCell ?_ (by simp <;> omega) _)))
    · have hb : bits BinOp.and IntKind.i64 0 1 = 0 := by decide
      go_wp2_with fail
      exact bodyPost_ret (v := .tuple #[.agg #[.int .i64 0, .int .i64 0, .int .i64 0, .int .i64 0], .int .i64 140]) (by simp [results, Try.results23, go_sem, *]) rfl
        (StepPost.no (fun hh => by have p := hh.2.2; simp [Pos] at p <;> omega) (by repeat (first | with_reducible exact BW.out | with_reducible refine Below.drew ?_ | with_reducible refine Below.setCell ?_ (by simp <;> omega) _)))
    · have hb : bits BinOp.and IntKind.i64 0 1 = 0 := by decide
      go_wp2_with fail
      exact bodyPost_ret (v := .tuple #[.agg #[.int .i64 0, .int .i64 0, .int .i64 0, .int .i64 0], .int .i64 140]) (by simp [results, Try.results23, go_sem, *]) rfl
        (StepPost.no (fun hh => by have p := hh.2.2; simp [Pos] at p <;> omega) (by repeat (first | with_reducible exact BW.out | with_reducible refine Below.drew ?_ | with_reducible refine Below.setCell ?_ (by simp <;> omega) _)))
end Go.Proofs.Ytjhakonpnopcnaa
