/-
  life.Fate.
-/
import Derived.Test.YtjhakonpnopcnaaL9
import Derived.Deep.QuietTactic
set_option linter.unusedVariables false
set_option linter.unusedSimpArgs false
namespace Go.Proofs.Ytjhakonpnopcnaa
open Go Go.RowKit Go.Dial Go.Dial.Lif

def FatePost (es : List Ev) (me ma t : Int) (w : World) (e : Ending) (w' : World) : Prop := e = .returned (.tuple #[.int .i64 (fateR es me ma t).1.1, .int .i64 (fateR es me ma t).1.2, .int .i64 (fateR es me ma t).2]) ∧ Below w.heap.size w w'
theorem keepR_cases (es : List Ev) (t : Int) : (OkKeep es t ∧ keepR es t = (((atL es t).e, t), 0)) ∨ (¬ OkKeep es t ∧ keepR es t = ((0, 0), 140)) := by
  by_cases h : OkKeep es t
  · exact .inl ⟨h, if_pos h⟩
  · exact .inr ⟨h, if_neg h⟩
theorem fate_yes {es : List Ev} {me ma t ka kr ar : Int} {N : Ln} (hk : ((me, ka), kr) = keepR es ma) (ha : (N, ar) = atR es t) (h1 : kr = 0) (h3 : ar = 0) (h4 : ma ≤ t) : fateR es me ma t = (fateV N me, 0) := by
  rcases keepR_cases es ma with ⟨k1, k2⟩ | ⟨k1, k2⟩
  · rw [k2] at hk
    rcases atR_cases es t with ⟨a1, a2⟩ | ⟨a1, a2⟩
    · rw [a2] at ha
      simp only [Prod.mk.injEq] at hk ha
      have hok : OkFate es me ma t := ⟨k1, hk.1.1.symm, h4, a1.2.2⟩
      rw [fateR, if_pos hok, ha.1]
    · rw [a2] at ha; simp only [Prod.mk.injEq] at ha; omega
  · rw [k2] at hk; simp only [Prod.mk.injEq] at hk; omega
theorem fate_no {es : List Ev} {me ma t ke ka kr ar : Int} {N : Ln} (hk : ((ke, ka), kr) = keepR es ma) (ha : (N, ar) = atR es t) (h : kr ≠ 0 ∨ ke ≠ me ∨ ar ≠ 0 ∨ t < ma) : fateR es me ma t = ((0, 0), 140) := by
  refine if_neg fun hf => ?_
  obtain ⟨f1, f2, f3, f4⟩ := hf
  have e1 : keepR es ma = (((atL es ma).e, ma), 0) := if_pos f1
  have e2 : atR es t = (atL es t, 0) := if_pos ⟨f1.1.1, by have := f1.1.2.1; omega, f4⟩
  rw [e1] at hk
  rw [e2] at ha
  simp only [Prod.mk.injEq] at hk ha
  omega
theorem KeepPostEq (es : List Ev) (t : Int) (w : World) : KeepPost es t w = fun e w' => e = .returned (.tuple #[.agg #[.int .i64 (keepR es t).1.1, .int .i64 (keepR es t).1.2], .int .i64 (keepR es t).2]) ∧ Below w.heap.size w w' := rfl
theorem AtPostEq (es : List Ev) (t : Int) (w : World) : AtPost es t w = fun e w' => e = .returned (.tuple #[lnA (atR es t).1, .bool (decide ((atR es t).2 = 0))]) ∧ Below w.heap.size w w' := rfl
set_option maxRecDepth 100000 in
set_option maxHeartbeats 1600000 in
theorem lfate_any (v : Value) (es : List Ev) (me ma t : Int) (w : World) (hv : HoldsG evc 3 w w.heap.size v es) : Calls Try.prog 21 #[v, .agg #[.int .i64 me, .int .i64 ma], .int .i64 t] w (FatePost es me ma t w) := by
  obtain ⟨⟨⟨ke, ka⟩, kr⟩, hk⟩ : ∃ p, p = keepR es ma := ⟨_, rfl⟩
  obtain ⟨⟨N, ar⟩, ha⟩ : ∃ p, p = atR es t := ⟨_, rfl⟩
  have HK := Lib.hid hk
  have HA := Lib.hid ha
  obtain ⟨w0, hw0⟩ : ∃ w0, w0 = w.alloc (.cells #[.int .i64 me, .int .i64 ma] 28) := ⟨_, rfl⟩
  have b4 := Lib.hid (show w0.heap[w.heap.size]? = some (.cells #[.int .i64 me, .int .i64 ma] 28) by rw [hw0]; exact newcell _ _)
  have hb0 : Below w.heap.size w w0 := by rw [hw0]; exact below_new _ _
  have HV := Lib.hid (hv.later hb0)
  have HB0 := Lib.hid hb0
  have HW := Lib.hid hw0
  obtain ⟨x0, x1, f0, f1, lt5⟩ := ml_cells b4.out
  clear hw0 hb0 hv hk ha
  go_enter Try.func21, Try.ntmps21
  go_wp2_with fail
  rw [← HW.out]
  go_wp2_with fail
  refine (lkeep_any _ es ma _ HV.out).mono ?_
  rw [KeepPostEq, ← HK.out]
  dsimp only
  rintro e w1 ⟨rfl, hb1⟩
  replace HV := Lib.hid (HV.out.later hb1)
  replace b4 := Lib.hid (keepcell b4.out hb1)
  have HB1 := Lib.hid (below_then HB0.out hb1)
  clear hb1 x0 x1 f0 f1 lt5
  go_wp2_with fail
  obtain ⟨w2, hw2⟩ : ∃ w2, w2 = w1.alloc (.cells #[.int .i64 ke, .int .i64 ka] 28) := ⟨_, rfl⟩
  have hb2 : Below w1.heap.size w1 w2 := by rw [hw2]; exact below_new _ _
  have c9 := Lib.hid (show w2.heap[w1.heap.size]? = some (.cells #[.int .i64 ke, .int .i64 ka] 28) by rw [hw2]; exact newcell _ _)
  rw [← hw2]
  clear hw2
  replace HV := Lib.hid (HV.out.later hb2)
  replace b4 := Lib.hid (keepcell b4.out hb2)
  replace HB1 := Lib.hid (below_then HB1.out hb2)
  clear hb2
  refine (lat_any _ es t _ HV.out).mono ?_
  rw [AtPostEq, ← HA.out]
  dsimp only [lnA]
  rintro e w3 ⟨rfl, hb3⟩
  replace b4 := Lib.hid (keepcell b4.out hb3)
  replace c9 := Lib.hid (keepcell c9.out hb3)
  replace HB1 := Lib.hid (below_then HB1.out hb3)
  clear hb3
  obtain ⟨x0, x1, f0, f1, lt5⟩ := ml_cells b4.out
  obtain ⟨y0, y1, g0, g1, lt6⟩ := ml_cells c9.out
  by_cases a1 : kr = 0
  · have t1 : (kr != 0) = false := by simp [a1]
    by_cases a2 : ke = me
    · have t2 : (ke != me) = false := by simp [a2]
      by_cases a3 : ar = 0
      · have t3 : decide (ar = 0) = true := by simp [a3]
        by_cases a4 : t < ma
        · have t4 : decide (t < ma) = true := by simp [a4]
          have HF := Lib.hid (fate_no (me := me) HK.out HA.out (.inr (.inr (.inr a4))))
          clear a1 a2 a3 a4
          rw [t3]
          go_wp2_with fail
          go_ret3
          exact ⟨by rw [HF.out]; rfl, (by repeat (first | with_reducible exact HB1.out | with_reducible refine below_drewN ?_ _ | with_reducible refine Below.drew ?_ | with_reducible refine Below.alloc ?_ (by first | omega | (simp; omega)) _))⟩
        · have t4 : decide (t < ma) = false := by simp; omega
          have HF := Lib.hid (fate_yes (by rw [← HK.out, a2]) HA.out a1 a3 (by omega : ma ≤ t))
          clear a1 a2 a3 a4
          rw [t3]
          by_cases s0 : N.s = 0
          · have u0 : (N.s == 0) = true := by simp [s0]
            have FV := Lib.hid (show fateV N me = (3, -1) from if_pos (.inl s0))
            clear s0
            go_wp2_with fail
            go_ret3
            exact ⟨by rw [HF.out, FV.out]; rfl, (by repeat (first | with_reducible exact HB1.out | with_reducible refine below_drewN ?_ _ | with_reducible refine Below.drew ?_ | with_reducible refine Below.alloc ?_ (by first | omega | (simp; omega)) _))⟩
          · have u0 : (N.s == 0) = false := by simp [s0]
            by_cases e0 : N.e = me
            · have u1 : (N.e != me) = false := by simp [e0]
              by_cases s1 : N.s = 1
              · have u2 : (N.s == 1) = true := by simp [s1]
                have FV := Lib.hid (show fateV N me = (1, N.h) by rw [fateV, if_neg (by omega), if_pos s1])
                clear s0 e0 s1
                go_wp2_with fail
                go_quiet (fail)
                go_wp2_with fail
                go_ret3
                exact ⟨by rw [HF.out, FV.out]; rfl, (by repeat (first | with_reducible exact HB1.out | with_reducible refine below_drewN ?_ _ | with_reducible refine Below.drew ?_ | with_reducible refine Below.alloc ?_ (by first | omega | (simp; omega)) _))⟩
              · have u2 : (N.s == 1) = false := by simp [s1]
                have FV := Lib.hid (show fateV N me = (2, -1) by rw [fateV, if_neg (by omega), if_neg s1])
                clear s0 e0 s1
                go_wp2_with fail
                go_ret3
                exact ⟨by rw [HF.out, FV.out]; rfl, (by repeat (first | with_reducible exact HB1.out | with_reducible refine below_drewN ?_ _ | with_reducible refine Below.drew ?_ | with_reducible refine Below.alloc ?_ (by first | omega | (simp; omega)) _))⟩
            · have u1 : (N.e != me) = true := by simp [e0]
              have FV := Lib.hid (show fateV N me = (3, -1) from if_pos (.inr e0))
              clear s0 e0
              go_wp2_with fail
              go_ret3
              exact ⟨by rw [HF.out, FV.out]; rfl, (by repeat (first | with_reducible exact HB1.out | with_reducible refine below_drewN ?_ _ | with_reducible refine Below.drew ?_ | with_reducible refine Below.alloc ?_ (by first | omega | (simp; omega)) _))⟩
      · have t3 : decide (ar = 0) = false := by simp [a3]
        have HF := Lib.hid (fate_no (me := me) HK.out HA.out (.inr (.inr (.inl a3))))
        clear a1 a2 a3
        rw [t3]
        go_wp2_with fail
        go_ret3
        exact ⟨by rw [HF.out]; rfl, (by repeat (first | with_reducible exact HB1.out | with_reducible refine below_drewN ?_ _ | with_reducible refine Below.drew ?_ | with_reducible refine Below.alloc ?_ (by first | omega | (simp; omega)) _))⟩
    · have t2 : (ke != me) = true := by simp [a2]
      have HF := Lib.hid (fate_no (me := me) HK.out HA.out (.inr (.inl a2)))
      clear a1 a2
      go_wp2_with fail
      go_ret3
      exact ⟨by rw [HF.out]; rfl, (by repeat (first | with_reducible exact HB1.out | with_reducible refine below_drewN ?_ _ | with_reducible refine Below.drew ?_ | with_reducible refine Below.alloc ?_ (by first | omega | (simp; omega)) _))⟩
  · have t1 : (kr != 0) = true := by simp [a1]
    have HF := Lib.hid (fate_no (me := me) HK.out HA.out (.inl a1))
    clear a1
    go_wp2_with fail
    go_ret3
    exact ⟨by rw [HF.out]; rfl, (by repeat (first | with_reducible exact HB1.out | with_reducible refine below_drewN ?_ _ | with_reducible refine Below.drew ?_ | with_reducible refine Below.alloc ?_ (by first | omega | (simp; omega)) _))⟩
end Go.Proofs.Ytjhakonpnopcnaa
