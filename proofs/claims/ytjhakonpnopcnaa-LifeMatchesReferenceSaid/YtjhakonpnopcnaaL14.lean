/-
  life.Decode.
-/
import Derived.Test.YtjhakonpnopcnaaL13
set_option linter.unusedVariables false
set_option linter.unusedSimpArgs false
namespace Go.Proofs.Ytjhakonpnopcnaa
open Go Go.RowKit Go.Dial Go.Dial.Lif Go.Dial.Wire

/-- what Decode returns -/
def decOk (l : List UInt8) : Prop := (intAt l 0).2.2 = 0 ∧ (intAt l (intAt l 0).2.1).2.2 = 0 ∧ (intAt l (intAt l (intAt l 0).2.1).2.1).2.2 = 0 ∧ (intAt l (intAt l (intAt l 0).2.1).2.1).2.1 = l.length ∧
  Frm ⟨(intAt l 0).1, (intAt l (intAt l 0).2.1).1, (intAt l (intAt l (intAt l 0).2.1).2.1).1⟩
instance (l : List UInt8) : Decidable (decOk l) := by unfold decOk; infer_instance
def decR (l : List UInt8) : Ev × Int := if decOk l then (⟨(intAt l 0).1, (intAt l (intAt l 0).2.1).1, (intAt l (intAt l (intAt l 0).2.1).2.1).1⟩, 0) else (⟨0, 0, 0⟩, 140)
def DecPost (l : List UInt8) (w : World) (e : Ending) (w' : World) : Prop := e = .returned (.tuple #[evA (decR l).1, .int .i64 (decR l).2]) ∧ Below w.heap.size w w'
set_option maxRecDepth 100000 in
set_option maxHeartbeats 1600000 in
theorem ldecode_any (s : ByteArray) (w : World) (hs : s.size ≤ maxLen) : Calls Try.prog 29 #[.string s] w (DecPost s.data.toList w) := by
  have hss := hs
  unfold maxLen at hs
  obtain ⟨l, hl⟩ : ∃ l, l = s.data.toList := ⟨_, rfl⟩
  have hln : (l.length : Int) = (s.size : Int) := by rw [hl]; simp
  have HLL := Lib.hid hl
  rw [← hl]
  obtain ⟨⟨k, p1, e1⟩, h1⟩ : ∃ r, r = intAt l 0 := ⟨_, rfl⟩
  have q1 := intAt_bd l 0
  rw [← h1] at q1
  obtain ⟨⟨a, p2, e2⟩, h2⟩ : ∃ r, r = intAt l p1 := ⟨_, rfl⟩
  have q2 := intAt_bd l p1
  rw [← h2] at q2
  obtain ⟨⟨h, p3, e3⟩, h3⟩ : ∃ r, r = intAt l p2 := ⟨_, rfl⟩
  have hd : decR l = if e1 = 0 ∧ e2 = 0 ∧ e3 = 0 ∧ p3 = l.length ∧ Frm ⟨k, a, h⟩ then (⟨k, a, h⟩, 0) else (⟨0, 0, 0⟩, 140) := by
    have hok : decOk l ↔ (e1 = 0 ∧ e2 = 0 ∧ e3 = 0 ∧ p3 = l.length ∧ Frm ⟨k, a, h⟩) := by
      unfold decOk; rw [← h1]; dsimp only; rw [← h2]; dsimp only; rw [← h3]
    have hv : (⟨(intAt l 0).1, (intAt l (intAt l 0).2.1).1, (intAt l (intAt l (intAt l 0).2.1).2.1).1⟩ : Ev) = ⟨k, a, h⟩ := by
      rw [← h1]; dsimp only; rw [← h2]; dsimp only; rw [← h3]
    unfold decR
    by_cases hh : decOk l
    · rw [if_pos hh, if_pos (hok.1 hh), hv]
    · rw [if_neg hh, if_neg (fun x => hh (hok.2 x))]
  dsimp only at q1 q2
  have HD0 := Lib.hid hd
  have H1 := Lib.hid h1
  have H2 := Lib.hid h2
  have H3 := Lib.hid h3
  clear hl h1 h2 h3 hd
  obtain ⟨w0, hw0⟩ : ∃ w0, w0 = (((w.alloc (.cells #[.string s] 9)).alloc (.cells #[.int .i64 0, .int .i64 0, .int .i64 0] 54)).alloc (.cells #[.int .i64 0] 3)).alloc (.cells #[.bool false] 4) := ⟨_, rfl⟩
  have b1 : Boxed w0 w.heap.size 9 (.string s) := by rw [hw0]; exact oldcell _ (oldcell _ (oldcell _ (newcell _ _)))
  have b2 : w0.heap[w.heap.size + 1]? = some (.cells #[.int .i64 0, .int .i64 0, .int .i64 0] 54) := by
    rw [hw0]; refine oldcell _ (oldcell _ ?_); have := newcell (w.alloc (.cells #[.string s] 9)) (.cells #[.int .i64 0, .int .i64 0, .int .i64 0] 54); simpa using this
  have b4 : Boxed w0 (w.heap.size + 2) 3 (.int .i64 0) := by
    rw [hw0]; refine oldcell _ ?_; have := newcell ((w.alloc (.cells #[.string s] 9)).alloc (.cells #[.int .i64 0, .int .i64 0, .int .i64 0] 54)) (.cells #[.int .i64 0] 3); simpa using this
  have b5 : Boxed w0 (w.heap.size + 3) 4 (.bool false) := by
    rw [hw0]; have := newcell (((w.alloc (.cells #[.string s] 9)).alloc (.cells #[.int .i64 0, .int .i64 0, .int .i64 0] 54)).alloc (.cells #[.int .i64 0] 3)) (.cells #[.bool false] 4)
    rw [show (((w.alloc (.cells #[.string s] 9)).alloc (.cells #[.int .i64 0, .int .i64 0, .int .i64 0] 54)).alloc (.cells #[.int .i64 0] 3)).heap.size = w.heap.size + 3 by simp] at this; exact this
  have hb0 : Below w.heap.size w w0 := by rw [hw0]; exact below_then (below_new3 _ _ _ _) (below_new _ _)
  have HW := Lib.hid hw0
  have G1 := Lib.hid b1
  have G2 := Lib.hid b2
  have G4 := Lib.hid b4
  have G5 := Lib.hid b5
  have HB0 := Lib.hid hb0
  clear hw0 b1 b2 b4 b5 hb0
  go_enter Try.func29, Try.ntmps29
  go_wp2_with fail
  rw [← HW.out]
  refine (lnext_any s hss w.heap.size (w.heap.size + 2) (w.heap.size + 3) 0 false w0 (by omega) (by omega) (by omega) (by omega) (by omega) G1.out G4.out G5.out).mono ?_
  rw [← HLL.out, ← H1.out]
  dsimp only
  rintro e W1 ⟨rfl, b1, b4, b5, hx1⟩
  clear G1 G4 G5
  have G1 := Lib.hid b1
  have G4 := Lib.hid b4
  have G5 := Lib.hid b5
  have X1 := Lib.hid hx1
  clear b1 b4 b5 hx1
  go_wp2_with fail
  refine (lnext_any s hss w.heap.size (w.heap.size + 2) (w.heap.size + 3) p1 _ W1 (by omega) (by omega) (by omega) (by omega) (by omega) G1.out G4.out G5.out).mono ?_
  rw [← HLL.out, ← H2.out]
  dsimp only
  rintro e W2 ⟨rfl, b1, b4, b5, hx2⟩
  clear G1 G4 G5
  have G1 := Lib.hid b1
  have G4 := Lib.hid b4
  have G5 := Lib.hid b5
  have X2 := Lib.hid (X1.out.trans hx2)
  clear b1 b4 b5 hx2 X1
  go_wp2_with fail
  refine (lnext_any s hss w.heap.size (w.heap.size + 2) (w.heap.size + 3) p2 _ W2 (by omega) (by omega) (by omega) (by omega) (by omega) G1.out G4.out G5.out).mono ?_
  rw [← HLL.out, ← H3.out]
  dsimp only
  rintro e W3 ⟨rfl, b1, b4, b5, hx3⟩
  have X3 := X2.out.trans hx3
  have b2 := X3.keeps G2.out (by omega)
  have HB1 : Hid (Below w.heap.size w W3) := Lib.hid (HB0.out.trans (X3.below (by intro k hk; omega) HB0.out.size))
  obtain ⟨bad, hbad⟩ : ∃ b, b = (false || decide (e1 ≠ 0) || decide (e2 ≠ 0) || decide (e3 ≠ 0)) := ⟨_, rfl⟩
  rw [← hbad] at b5
  have lt2 := heap_lt b2
  have n1 : w.heap.size + 1 ≠ W3.heap.size := by omega
  have n2 := Ne.symm n1
  have l1 := heap_lt b1
  have l4 := heap_lt b4
  have l5 := heap_lt b5
  clear X2 X3 hx3 G1 G2 G4 G5
  have HBAD := Lib.hid hbad
  have B1 := Lib.hid b1
  have B2 := Lib.hid b2
  have B4 := Lib.hid b4
  have B5 := Lib.hid b5
  have k1 := b1.cell
  have k4 := b4.cell
  have k5 := b5.cell
  obtain ⟨z0, z1, z2, g0, g1, g2, _⟩ := ev_cells (x := ⟨0, 0, 0⟩) b2
  dsimp only at z0 z1 z2
  clear b1 b2 b4 b5 hbad
  cases bad
  · by_cases hp : p3 = l.length
    · have tp : (p3 != (s.size : Int)) = false := by simp; omega
      by_cases hf : Frm ⟨k, a, h⟩
      · have HD := Lib.hid (show decR l = (⟨k, a, h⟩, 0) by
          have hb := HBAD.out
          simp at hb
          rw [HD0.out, if_pos ⟨by omega, by omega, by omega, hp, hf⟩])
        have TF := Lib.hid (frmB_iff.2 hf)
        clear hp hf
        go_wp2_with fail
        obtain ⟨W4, hW4⟩ : ∃ W4, W4 = W3.alloc (.cells #[.int .i64 k, .int .i64 a, .int .i64 h] 54) := ⟨_, rfl⟩
        rw [← hW4]
        have hb4 : Below W3.heap.size W3 W4 := by rw [hW4]; exact below_new _ _
        have x4 : W4.heap[W3.heap.size]? = some (.cells #[.int .i64 k, .int .i64 a, .int .i64 h] 54) := by rw [hW4]; exact newcell _ _
        clear hW4
        refine (lformed_any ⟨k, a, h⟩ W4).mono ?_
        rintro e W5 ⟨rfl, hb5⟩
        rw [TF.out]
        have hb := below_then hb4 hb5
        replace HB1 := Lib.hid (below_then HB1.out hb)
        have y2 := keepcell B2.out hb
        have y7 := keepcell x4 hb5
        clear k1 k4 k5 z0 z1 z2 g0 g1 g2 hb hb4 hb5 x4
        obtain ⟨z0, z1, z2, g0, g1, g2, _⟩ := ev_cells (x := ⟨0, 0, 0⟩) y2
        obtain ⟨v0, v1, v2, _, _, _, _⟩ := ev_cells (x := ⟨k, a, h⟩) y7
        dsimp only at z0 z1 z2 v0 v1 v2
        clear y2 y7
        go_wp2_with fail
        exact bodyPost_ret (v := .tuple #[.agg #[.int .i64 k, .int .i64 a, .int .i64 h], .int .i64 0]) (by simp [results, Try.results29, go_sem, *]) rfl ⟨by rw [HD.out]; rfl, (by repeat (first | with_reducible exact HB1.out | with_reducible refine below_drewN ?_ _ | with_reducible refine Below.drew ?_ | with_reducible refine Below.setCell ?_ (by simp <;> omega) _ | with_reducible refine Below.alloc ?_ (by first | omega | (simp <;> omega)) _))⟩
      · have HD := Lib.hid (show decR l = (⟨0, 0, 0⟩, 140) by rw [HD0.out, if_neg (fun hh => hf hh.2.2.2.2)])
        have TF := Lib.hid (Bool.eq_false_iff.2 (fun hh => hf (frmB_iff.1 hh)))
        clear hp hf
        go_wp2_with fail
        obtain ⟨W4, hW4⟩ : ∃ W4, W4 = W3.alloc (.cells #[.int .i64 k, .int .i64 a, .int .i64 h] 54) := ⟨_, rfl⟩
        rw [← hW4]
        have hb4 : Below W3.heap.size W3 W4 := by rw [hW4]; exact below_new _ _
        have x4 : W4.heap[W3.heap.size]? = some (.cells #[.int .i64 k, .int .i64 a, .int .i64 h] 54) := by rw [hW4]; exact newcell _ _
        clear hW4
        refine (lformed_any ⟨k, a, h⟩ W4).mono ?_
        rintro e W5 ⟨rfl, hb5⟩
        rw [TF.out]
        have hb := below_then hb4 hb5
        replace HB1 := Lib.hid (below_then HB1.out hb)
        have y2 := keepcell B2.out hb
        have y7 := keepcell x4 hb5
        clear k1 k4 k5 z0 z1 z2 g0 g1 g2 hb hb4 hb5 x4
        obtain ⟨z0, z1, z2, g0, g1, g2, _⟩ := ev_cells (x := ⟨0, 0, 0⟩) y2
        obtain ⟨v0, v1, v2, _, _, _, _⟩ := ev_cells (x := ⟨k, a, h⟩) y7
        dsimp only at z0 z1 z2 v0 v1 v2
        clear y2 y7
        go_wp2_with fail
        exact bodyPost_ret (v := .tuple #[.agg #[.int .i64 0, .int .i64 0, .int .i64 0], .int .i64 140]) (by simp [results, Try.results29, go_sem, *]) rfl ⟨by rw [HD.out]; rfl, (by repeat (first | with_reducible exact HB1.out | with_reducible refine below_drewN ?_ _ | with_reducible refine Below.drew ?_ | with_reducible refine Below.setCell ?_ (by simp <;> omega) _ | with_reducible refine Below.alloc ?_ (by first | omega | (simp <;> omega)) _))⟩
    · have tp : (p3 != (s.size : Int)) = true := by simp; omega
      have HD := Lib.hid (show decR l = (⟨0, 0, 0⟩, 140) by rw [HD0.out, if_neg (fun hh => hp hh.2.2.2.1)])
      clear hp
      go_wp2_with fail
      exact bodyPost_ret (v := .tuple #[.agg #[.int .i64 0, .int .i64 0, .int .i64 0], .int .i64 140]) (by simp [results, Try.results29, go_sem, *]) rfl ⟨by rw [HD.out]; rfl, (by repeat (first | with_reducible exact HB1.out | with_reducible refine below_drewN ?_ _ | with_reducible refine Below.drew ?_ | with_reducible refine Below.setCell ?_ (by simp <;> omega) _ | with_reducible refine Below.alloc ?_ (by first | omega | (simp <;> omega)) _))⟩
  · have HD := Lib.hid (show decR l = (⟨0, 0, 0⟩, 140) by
      have hb := HBAD.out
      simp at hb
      rw [HD0.out, if_neg (fun hh => by obtain ⟨u1, u2, u3, _⟩ := hh; simp [u1, u2, u3] at hb)])
    go_wp2_with fail
    exact bodyPost_ret (v := .tuple #[.agg #[.int .i64 0, .int .i64 0, .int .i64 0], .int .i64 140]) (by simp [results, Try.results29, go_sem, *]) rfl ⟨by rw [HD.out]; rfl, (by repeat (first | with_reducible exact HB1.out | with_reducible refine below_drewN ?_ _ | with_reducible refine Below.drew ?_ | with_reducible refine Below.setCell ?_ (by simp <;> omega) _ | with_reducible refine Below.alloc ?_ (by first | omega | (simp <;> omega)) _))⟩
end Go.Proofs.Ytjhakonpnopcnaa
