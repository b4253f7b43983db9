/-
  life.At, Keep.
-/
import Derived.Test.YtjhakonpnopcnaaL8
set_option linter.unusedVariables false
set_option linter.unusedSimpArgs false
namespace Go.Proofs.Ytjhakonpnopcnaa
open Go Go.RowKit Go.Dial Go.Dial.Lif

theorem atR_cases (es : List Ev) (t : Int) : (OkAt es t ∧ atR es t = (atL es t, 0)) ∨ (¬ OkAt es t ∧ atR es t = (zero, 140)) := by
  by_cases h : OkAt es t
  · exact .inl ⟨h, if_pos h⟩
  · exact .inr ⟨h, if_neg h⟩
def AtPost2 (es : List Ev) (t : Int) (w : World) (e : Ending) (w' : World) : Prop := e = .returned (.tuple #[lnA (atR es t).1, .int .i64 (atR es t).2]) ∧ Below w.heap.size w w'
set_option maxHeartbeats 800000 in
theorem lAt_any (v : Value) (es : List Ev) (t : Int) (w : World) (hv : HoldsG evc 3 w w.heap.size v es) : Calls Try.prog 16 #[v, .int .i64 t] w (AtPost2 es t w) := by
  obtain ⟨w0, hw0⟩ : ∃ w0, w0 = w.alloc (.cells (lnc zero) 26) := ⟨_, rfl⟩
  have b4 := Lib.hid (show w0.heap[w.heap.size]? = some (.cells (lnc zero) 26) by rw [hw0]; exact newcell _ _)
  have hb0 : Below w.heap.size w w0 := by rw [hw0]; exact below_new _ _
  have HV := Lib.hid (hv.later hb0)
  have HB0 := Lib.hid hb0
  have HW := Lib.hid (show w0 = w.alloc (.cells #[.int .i64 0, .int .i64 0, .int .i64 0, .int .i64 0] 26) from hw0)
  clear hw0 hb0 hv
  go_enter Try.func16, Try.ntmps16
  go_wp2_with fail
  rw [← HW.out]
  refine (lat_any _ es t _ HV.out).mono ?_
  rintro e w1 ⟨rfl, hb1⟩
  have HB1 := Lib.hid (below_then HB0.out hb1)
  obtain ⟨x0, x1, x2, x3, f0, f1, f2, f3, lt5⟩ := ln_cells (l := zero) (keepcell b4.out hb1)
  clear hb1
  rcases atR_cases es t with ⟨ho, hr⟩ | ⟨ho, hr⟩
  · rw [hr]
    obtain ⟨N, hN⟩ : ∃ N, N = atL es t := ⟨_, rfl⟩
    rw [← hN] at hr ⊢
    have HA := Lib.hid hr
    have td : decide ((0 : Int) = 0) = true := rfl
    dsimp only [lnA]
    rw [td]
    clear hr hN ho td
    go_wp2_with fail
    exact bodyPost_ret (v := .tuple #[.agg #[.int .i64 N.s, .int .i64 N.h, .int .i64 N.e, .int .i64 N.t], .int .i64 0]) (by simp [results, Try.results16, go_sem, *]) rfl ⟨by rw [HA.out]; rfl, (by repeat (first | with_reducible exact HB1.out | with_reducible refine Below.drew ?_ | with_reducible refine Below.setCell ?_ (by simp <;> omega) _ | with_reducible refine Below.alloc ?_ (by simp <;> omega) _))⟩
  · rw [hr]
    have HA := Lib.hid hr
    have td : decide ((140 : Int) = 0) = false := rfl
    dsimp only [lnA, zero]
    rw [td]
    clear hr ho td
    go_wp2_with fail
    exact bodyPost_ret (v := .tuple #[.agg #[.int .i64 0, .int .i64 0, .int .i64 0, .int .i64 0], .int .i64 140]) (by simp [results, Try.results16, go_sem, *]) rfl ⟨by rw [HA.out]; rfl, (by repeat (first | with_reducible exact HB1.out | with_reducible refine Below.drew ?_ | with_reducible refine Below.setCell ?_ (by simp <;> omega) _ | with_reducible refine Below.alloc ?_ (by simp <;> omega) _))⟩
def KeepPost (es : List Ev) (t : Int) (w : World) (e : Ending) (w' : World) : Prop := e = .returned (.tuple #[.agg #[.int .i64 (keepR es t).1.1, .int .i64 (keepR es t).1.2], .int .i64 (keepR es t).2]) ∧ Below w.heap.size w w'
theorem ml_cells {w : World} {p : Nat} {x y : Int} {t : TypeId} (h : w.heap[p]? = some (.cells #[.int .i64 x, .int .i64 y] t)) :
    w.cell? ⟨p, 0, none⟩ = some (.int .i64 x) ∧ w.cell? ⟨p, 1, none⟩ = some (.int .i64 y) ∧ w.frozen? ⟨p, 0, none⟩ = false ∧ w.frozen? ⟨p, 1, none⟩ = false ∧ p < w.heap.size := by
  refine ⟨?_, ?_, ?_, ?_, heap_lt h⟩ <;> simp [World.cell?, World.frozen?, h]
set_option maxHeartbeats 800000 in
theorem lkeep_any (v : Value) (es : List Ev) (t : Int) (w : World) (hv : HoldsG evc 3 w w.heap.size v es) : Calls Try.prog 18 #[v, .int .i64 t] w (KeepPost es t w) := by
  obtain ⟨w0, hw0⟩ : ∃ w0, w0 = w.alloc (.cells #[.int .i64 0, .int .i64 0] 28) := ⟨_, rfl⟩
  have b4 := Lib.hid (show w0.heap[w.heap.size]? = some (.cells #[.int .i64 0, .int .i64 0] 28) by rw [hw0]; exact newcell _ _)
  have hb0 : Below w.heap.size w w0 := by rw [hw0]; exact below_new _ _
  have HV := Lib.hid (hv.later hb0)
  have HB0 := Lib.hid hb0
  have HW := Lib.hid hw0
  clear hw0 hb0 hv
  go_enter Try.func18, Try.ntmps18
  go_wp2_with fail
  rw [← HW.out]
  refine (lat_any _ es t _ HV.out).mono ?_
  rintro e w1 ⟨rfl, hb1⟩
  have HB1 := Lib.hid (below_then HB0.out hb1)
  have C4 := Lib.hid (keepcell b4.out hb1)
  obtain ⟨x0, x1, f0, f1, lt5⟩ := ml_cells C4.out
  clear hb1
  rcases atR_cases es t with ⟨ho, hr⟩ | ⟨ho, hr⟩
  · rw [hr]
    obtain ⟨N, hN⟩ : ∃ N, N = atL es t := ⟨_, rfl⟩
    rw [← hN]
    have HN := Lib.hid hN
    have td : decide ((0 : Int) = 0) = true := rfl
    dsimp only [lnA]
    rw [td]
    by_cases hu : Used N
    · have HA := Lib.hid (show keepR es t = ((N.e, t), 0) by rw [keepR, if_pos ⟨ho, by rw [← hN]; exact hu⟩, ← hN])
      have HU := Lib.hid (usedB_iff.2 hu)
      clear hr hN ho td hu
      go_wp2_with fail
      obtain ⟨W2, hW2⟩ : ∃ W2, W2 = w1.alloc (.cells #[.int .i64 N.s, .int .i64 N.h, .int .i64 N.e, .int .i64 N.t] 26) := ⟨_, rfl⟩
      have q2 : W2.heap[w1.heap.size]? = some (.cells #[.int .i64 N.s, .int .i64 N.h, .int .i64 N.e, .int .i64 N.t] 26) := by rw [hW2]; exact newcell _ _
      have hb2 : Below w1.heap.size w1 W2 := by rw [hW2]; exact below_new _ _
      rw [← hW2]
      clear hW2
      refine (lused_any N _).mono ?_
      rintro e w3 ⟨rfl, hb3⟩
      rw [HU.out]
      replace HB1 := Lib.hid (below_then (below_then HB1.out hb2) hb3)
      replace C4 := Lib.hid (keepcell (keepcell C4.out hb2) hb3)
      have q3 := keepcell q2 hb3
      have n1 : w1.heap.size ≠ w.heap.size := by omega
      have n2 := Ne.symm n1
      clear x0 x1 f0 f1 lt5 hb2 hb3 q2
      obtain ⟨x0, x1, f0, f1, lt5⟩ := ml_cells C4.out
      obtain ⟨y0, y1, y2, y3, _⟩ := ln_cells q3
      go_wp2_with fail
      exact bodyPost_ret (v := .tuple #[.agg #[.int .i64 N.e, .int .i64 t], .int .i64 0]) (by simp [results, Try.results18, go_sem, *]) rfl ⟨by rw [HA.out], (by repeat (first | with_reducible exact HB1.out | with_reducible refine Below.drew ?_ | with_reducible refine Below.setCell ?_ (by simp <;> omega) _ | with_reducible refine Below.alloc ?_ (by simp <;> omega) _))⟩
    · have HA := Lib.hid (show keepR es t = ((0, 0), 140) from if_neg (fun h => hu (by rw [hN]; exact h.2)))
      have HU := Lib.hid (Bool.eq_false_iff.2 (fun h => hu (usedB_iff.1 h)))
      clear hr hN ho td hu
      go_wp2_with fail
      obtain ⟨W2, hW2⟩ : ∃ W2, W2 = w1.alloc (.cells #[.int .i64 N.s, .int .i64 N.h, .int .i64 N.e, .int .i64 N.t] 26) := ⟨_, rfl⟩
      have hb2 : Below w1.heap.size w1 W2 := by rw [hW2]; exact below_new _ _
      rw [← hW2]
      clear hW2
      refine (lused_any N _).mono ?_
      rintro e w3 ⟨rfl, hb3⟩
      rw [HU.out]
      replace HB1 := Lib.hid (below_then (below_then HB1.out hb2) hb3)
      replace C4 := Lib.hid (keepcell (keepcell C4.out hb2) hb3)
      clear x0 x1 f0 f1 lt5 hb2 hb3
      obtain ⟨x0, x1, f0, f1, lt5⟩ := ml_cells C4.out
      go_wp2_with fail
      exact bodyPost_ret (v := .tuple #[.agg #[.int .i64 0, .int .i64 0], .int .i64 140]) (by simp [results, Try.results18, go_sem, *]) rfl ⟨by rw [HA.out], (by repeat (first | with_reducible exact HB1.out | with_reducible refine Below.drew ?_ | with_reducible refine Below.setCell ?_ (by simp <;> omega) _ | with_reducible refine Below.alloc ?_ (by simp <;> omega) _))⟩
  · rw [hr]
    have HA := Lib.hid (show keepR es t = ((0, 0), 140) from if_neg (fun h => ho h.1))
    have td : decide ((140 : Int) = 0) = false := rfl
    dsimp only [lnA, zero]
    rw [td]
    clear hr ho td
    go_wp2_with fail
    exact bodyPost_ret (v := .tuple #[.agg #[.int .i64 0, .int .i64 0], .int .i64 140]) (by simp [results, Try.results18, go_sem, *]) rfl ⟨by rw [HA.out], (by repeat (first | with_reducible exact HB1.out | with_reducible refine Below.drew ?_ | with_reducible refine Below.setCell ?_ (by simp <;> omega) _ | with_reducible refine Below.alloc ?_ (by simp <;> omega) _))⟩
end Go.Proofs.Ytjhakonpnopcnaa
