/-
  The contract of the law LifeMail: it returns true.
-/
import Derived.Test.YteilkigdlkeiaaaC1
import Derived.Deep.RegionHeld3
import Derived.Deep.DrawnRows
namespace Go.Proofs.Yteilkigdlkeiaaa
open Go Go.RowKit Go.Dial Go.Dial.Lif
attribute [local go_sem] Oper.semAt_some
attribute [local go_sem ↓] Go.wp_at_zero Go.wp_at_succ

theorem mail_fates {L LF LS : Ln} (h1 : Later L LF) (h2 : Later LF LS) (v1 : Vld LF) (v2 : Vld LS) : ∃ fa tp fb too : Int, fateV LF L.e = (fa, tp) ∧ fateV LS L.e = (fb, too) ∧
    ((fa = 1 ∧ tp = L.h ∧ LF.e = L.e ∧ LF.s = 1 ∧ 0 ≤ L.h) ∨ (fa = 2 ∧ tp = -1) ∨ (fa = 3 ∧ tp = -1)) ∧ ((fb = 1 ∧ too = L.h) ∨ fb = 2 ∨ fb = 3) ∧ (fa = 3 → fb = 3) ∧ (0 : Int) ≤ 0 := by
  have hl := h1.trans h2
  have g := fate_gone (m := L.e) h2 h1.1
  unfold fateV
  by_cases c1 : LF.s = 0 ∨ LF.e ≠ L.e
  · rw [if_pos c1, if_pos (g c1)]
    exact ⟨3, -1, 3, -1, rfl, rfl, .inr (.inr ⟨rfl, rfl⟩), .inr (.inr rfl), fun _ => rfl, Int.le_refl _⟩
  · rw [if_neg c1]
    have e1 : LF.e = L.e := by omega
    have s1 : LF.s ≠ 0 := by omega
    have hh := fate_holder h1 e1 s1
    have hv := v1.2.2.2.2.2.2.2 s1
    have B : ∃ fb too : Int, (if LS.s = 0 ∨ LS.e ≠ L.e then (3, -1) else if LS.s = 1 then (1, LS.h) else (2, -1) : Int × Int) = (fb, too) ∧ ((fb = 1 ∧ too = L.h) ∨ fb = 2 ∨ fb = 3) := by
      by_cases c2 : LS.s = 0 ∨ LS.e ≠ L.e
      · rw [if_pos c2]; exact ⟨3, -1, rfl, .inr (.inr rfl)⟩
      · rw [if_neg c2]
        by_cases c3 : LS.s = 1
        · rw [if_pos c3]; exact ⟨1, LS.h, rfl, .inl ⟨rfl, fate_holder hl (by omega) (by omega)⟩⟩
        · rw [if_neg c3]; exact ⟨2, -1, rfl, .inr (.inl rfl)⟩
    obtain ⟨fb, too, h3, h4⟩ := B
    by_cases c3 : LF.s = 1
    · rw [if_pos c3]; exact ⟨1, LF.h, fb, too, rfl, h3, .inl ⟨rfl, hh, e1, c3, by omega⟩, h4, (fun h => absurd h (by decide)), Int.le_refl _⟩
    · rw [if_neg c3]; exact ⟨2, -1, fb, too, rfl, h3, .inr (.inl ⟨rfl, rfl⟩), h4, (fun h => absurd h (by decide)), Int.le_refl _⟩
set_option maxRecDepth 100000 in
set_option maxHeartbeats 8000000 in
theorem law5_any (Ax : Option Addr) (cx : Nat) (xs : List T3) (t u v : Int) (w : World) (hlen : xs.length ≤ maxLen) (hS : Span w w.heap.size 3 Ax xs.length (xs.flatMap tcells))
    (hb : (∀ x ∈ xs, Tri x) ∧ I64 t ∧ I64 u ∧ I64 v) :
    Calls Try.prog 5 #[.slice Ax xs.length cx, .int .i64 t, .int .i64 u, .int .i64 v] w fun e w' => e = .returned (.bool true) ∧ Below w.heap.size w w' := by
  obtain ⟨ha, ht, hu, hv⟩ := hb
  obtain ⟨hAll, hL16⟩ := made_life xs
  obtain ⟨es, hes⟩ : ∃ es, es = madeV xs := ⟨_, rfl⟩
  rw [← hes] at hAll hL16
  have HES := Lib.hid hes
  have HALL := Lib.hid hAll
  have HSM := Lib.hid (small_all hAll)
  have HLIFE := Lib.hid (show Life es from ⟨hAll, by omega⟩)
  clear hes hAll
  obtain ⟨m, hm⟩ : ∃ m, m = timeV es t := ⟨_, rfl⟩
  obtain ⟨n, hn⟩ : ∃ n, n = timeV es u := ⟨_, rfl⟩
  obtain ⟨o, ho⟩ : ∃ o, o = timeV es v := ⟨_, rfl⟩
  have bm := timeV_bd es t
  have bn := timeV_bd es u
  have bo := timeV_bd es v
  rw [← hm] at bm
  rw [← hn] at bn
  rw [← ho] at bo
  have HM := Lib.hid hm
  have HN := Lib.hid hn
  have HO := Lib.hid ho
  obtain ⟨f, hf⟩ : ∃ f, f = max m n := ⟨_, rfl⟩
  obtain ⟨s, hs⟩ : ∃ s, s = max f o := ⟨_, rfl⟩
  have fb : m ≤ f ∧ f ≤ s ∧ s ≤ 10000000 := by omega
  have HF := Lib.hid hf
  have HS := Lib.hid hs
  obtain ⟨m0, m1⟩ := bm
  obtain ⟨n0, n1⟩ := bn
  obtain ⟨o0, o1⟩ := bo
  obtain ⟨f0, f1, f2⟩ := fb
  obtain ⟨L, hLd⟩ : ∃ L, L = atL es m := ⟨_, rfl⟩
  obtain ⟨LF, hLF⟩ : ∃ L, L = atL es f := ⟨_, rfl⟩
  obtain ⟨LS, hLS⟩ : ∃ L, L = atL es s := ⟨_, rfl⟩
  have E1 := Lib.hid (show atR es m = (L, 0) by rw [hLd]; exact atR_ok HLIFE.out m0 m1)
  have E2 := Lib.hid (show atR es f = (LF, 0) by rw [hLF]; exact atR_ok HLIFE.out (by omega) (by omega))
  have HLD := Lib.hid hLd
  have HLF := Lib.hid hLF
  have HLS := Lib.hid hLS
  clear hm hn ho hf hs hLd hLF hLS
  have HSX := Lib.hid hS
  have HW : Hid (Below w.heap.size w w) := Lib.hid (Below.refl _ _)
  obtain ⟨W0, hW0⟩ : ∃ W0, W0 = w := ⟨_, rfl⟩
  rw [← hW0] at HSX HW
  subst hW0
  clear hS
  go_enter Try.func5, Try.ntmps5
  go_wp2_with fail
  refine (sane_any _).mono ?_
  rintro e W1 ⟨rfl, hb⟩
  replace HSX := Lib.hid ((HSX.out.below hb (Nat.le_refl _)).mono hb.size)
  replace HW := Lib.hid (below_trans HW.out hb)
  clear hb
  go_wp2_with fail
  refine (rmade_any Ax cx xs _ hlen HSX.out ha).mono ?_
  rintro e W2 ⟨⟨vl, rfl, h1⟩, hb⟩
  clear HSX
  replace HW := Lib.hid (below_trans HW.out hb)
  clear hb
  rw [← HES.out] at h1
  have HL := Lib.hid h1
  clear h1
  obtain ⟨A, c, rfl⟩ := holds_form HL.out (n := es.length) rfl
  obtain ⟨_, hc1, hc2⟩ := holds_cap HL.out
  go_wp2_with fail
  refine (rtime_any _ es t _ HL.out ht HSM.out (by omega)).mono ?_
  rintro e wq ⟨rfl, rfl⟩
  rw [← HM.out]
  go_wp2_with fail
  refine (rtime_any _ es u _ HL.out hu HSM.out (by omega)).mono ?_
  rintro e wq ⟨rfl, rfl⟩
  rw [← HN.out]
  go_upto_region 6 with fail
  have hq : f = f := rfl
  first
    | rw [show (if m < n then n else m : Int) = f by have := HF.out; split <;> omega]
    | rw [show (if n < m then m else n : Int) = f by have := HF.out; split <;> omega]
    | rw [show (if n > m then n else m : Int) = f by have := HF.out; split <;> omega]
  clear hq
  go_wp2_with fail
  refine (rtime_any _ es v _ HL.out hv HSM.out (by omega)).mono ?_
  rintro e wq ⟨rfl, rfl⟩
  rw [← HO.out]
  go_upto_region 7 with fail
  first
    | rw [show (if f < o then o else f : Int) = s by have := HS.out; split <;> omega]
    | rw [show (if o < f then f else o : Int) = s by have := HS.out; split <;> omega]
  go_wp2_with fail
  refine (lAt_any _ es m _ HL.out).mono ?_
  rw [AtPost2Eq]
  rintro e W3 ⟨rfl, hb⟩
  rw [E1.out]
  dsimp only [lnA]
  replace HW := Lib.hid (below_trans HW.out hb)
  replace HL := Lib.hid (HL.out.later hb)
  clear hb
  go_wp2_with fail
  obtain ⟨W4, hnew⟩ : ∃ W, W = W3.alloc (.cells #[.int .i64 L.s, .int .i64 L.h, .int .i64 L.e, .int .i64 L.t] 26) := ⟨_, rfl⟩
  rw [← hnew]
  obtain ⟨LAq, LAh⟩ : ∃ q, q = W3.heap.size := ⟨_, rfl⟩
  rw [← LAh]
  have LA0 : Hid (LnAt W4 LAq L) := Lib.hid (by rw [hnew, LAh]; exact LnAt.new W3 L)
  have hb : Below W3.heap.size W3 W4 := by rw [hnew]; exact below_new _ _
  clear hnew LAh
  replace HW := Lib.hid (below_trans HW.out hb)
  replace HL := Lib.hid (HL.out.later hb)
  clear hb
  have LA := LA0
  clear LA0
  by_cases hu : Used L
  · have EK := Lib.hid (show keepR es m = ((L.e, m), 0) by rw [HLD.out]; exact if_pos ⟨⟨HLIFE.out, m0, m1⟩, by rw [← HLD.out]; exact hu⟩)
    obtain ⟨fa, tp, fb, too, hfa, hfb, q1, q2, q3, q4⟩ := mail_fates (L := L) (LF := LF) (LS := LS) (by rw [HLD.out, HLF.out]; exact atL_later HALL.out f0) (by rw [HLF.out, HLS.out]; exact atL_later HALL.out f1) (by rw [HLF.out]; exact atL_vld HLIFE.out f) (by rw [HLS.out]; exact atL_vld HLIFE.out s)
    have EF1 := Lib.hid (show fateR es L.e m f = ((fa, tp), 0) by rw [← hfa, HLF.out]; exact if_pos ⟨⟨⟨HLIFE.out, m0, m1⟩, by rw [← HLD.out]; exact hu⟩, by rw [HLD.out], f0, by omega⟩)
    have EF2 := Lib.hid (show fateR es L.e m s = ((fb, too), 0) by rw [← hfb, HLS.out]; exact if_pos ⟨⟨⟨HLIFE.out, m0, m1⟩, by rw [← HLD.out]; exact hu⟩, by rw [HLD.out], by omega, by omega⟩)
    clear hfa hfb
    have hs12 : L.s = 1 ∨ L.s = 2 := hu
    clear hu
    go_wp2_with fail
    refine (lkeep_any _ es m _ HL.out).mono ?_
    unfold KeepPost
    rintro e W5 ⟨rfl, hb⟩
    rw [EK.out]
    dsimp only [lnA]
    replace HW := Lib.hid (below_trans HW.out hb)
    replace HL := Lib.hid (HL.out.later hb)
    replace LA := Lib.hid (LA.out.later hb)
    clear hb
    go_upto_region 9 with fail
    obtain ⟨W6, hnew⟩ : ∃ W, W = W5.alloc (.cells #[.int .i64 L.e, .int .i64 m] 28) := ⟨_, rfl⟩
    rw [← hnew]
    obtain ⟨MAq, MAh⟩ : ∃ q, q = W5.heap.size := ⟨_, rfl⟩
    rw [← MAh]
    have MA0 : Hid (MlAt W6 MAq L.e m) := Lib.hid (by rw [hnew, MAh]; exact MlAt.new W5 L.e m)
    have hb : Below W5.heap.size W5 W6 := by rw [hnew]; exact below_new _ _
    clear hnew MAh
    replace HW := Lib.hid (below_trans HW.out hb)
    replace HL := Lib.hid (HL.out.later hb)
    replace LA := Lib.hid (LA.out.later hb)
    clear hb
    have MA := MA0
    clear MA0
    obtain ⟨LA_0, LA_1, LA_2, LA_3, LA_4⟩ := LA.out.cells
    go_cut [68] (fun v wx => v = .bool false ∧ W6 = wx)
    case first =>
      rcases hs12 with h | h
      · rw [h] at LA_0
        go_wp2_with fail
        go_meet
        exact ⟨rfl, rfl⟩
      · rw [h] at LA_0
        go_wp2_with fail
        go_meet
        exact ⟨rfl, rfl⟩
    obtain ⟨rfl, rfl⟩ := hcut
    clear LA_0 LA_1 LA_2 LA_3 LA_4
    clear hs12
    obtain ⟨MA_0, MA_1, MA_2⟩ := MA.out.cells
    go_wp2_with fail
    refine (lfate_any _ es L.e m f _ HL.out).mono ?_
    unfold FatePost
    rintro e W7 ⟨rfl, hb⟩
    rw [EF1.out]
    dsimp only [lnA]
    clear MA_0 MA_1 MA_2
    replace HW := Lib.hid (below_trans HW.out hb)
    replace HL := Lib.hid (HL.out.later hb)
    replace LA := Lib.hid (LA.out.later hb)
    replace MA := Lib.hid (MA.out.later hb)
    clear hb
    obtain ⟨MA_0, MA_1, MA_2⟩ := MA.out.cells
    go_wp2_with fail
    refine (lfate_any _ es L.e m s _ HL.out).mono ?_
    unfold FatePost
    rintro e W8 ⟨rfl, hb⟩
    rw [EF2.out]
    dsimp only [lnA]
    clear MA_0 MA_1 MA_2
    replace HW := Lib.hid (below_trans HW.out hb)
    replace HL := Lib.hid (HL.out.later hb)
    replace LA := Lib.hid (LA.out.later hb)
    replace MA := Lib.hid (MA.out.later hb)
    clear hb
    go_wp2_with fail
    refine (lAt_any _ es f _ HL.out).mono ?_
    rw [AtPost2Eq]
    rintro e W9 ⟨rfl, hb⟩
    rw [E2.out]
    dsimp only [lnA]
    replace HW := Lib.hid (below_trans HW.out hb)
    replace HL := Lib.hid (HL.out.later hb)
    replace LA := Lib.hid (LA.out.later hb)
    replace MA := Lib.hid (MA.out.later hb)
    clear hb
    go_upto_region 16 with fail
    obtain ⟨W10, hnew⟩ : ∃ W, W = W9.alloc (.cells #[.int .i64 LF.s, .int .i64 LF.h, .int .i64 LF.e, .int .i64 LF.t] 26) := ⟨_, rfl⟩
    rw [← hnew]
    obtain ⟨LNq, LNh⟩ : ∃ q, q = W9.heap.size := ⟨_, rfl⟩
    rw [← LNh]
    have LN0 : Hid (LnAt W10 LNq LF) := Lib.hid (by rw [hnew, LNh]; exact LnAt.new W9 LF)
    have hb : Below W9.heap.size W9 W10 := by rw [hnew]; exact below_new _ _
    clear hnew LNh
    replace HW := Lib.hid (below_trans HW.out hb)
    replace HL := Lib.hid (HL.out.later hb)
    replace LA := Lib.hid (LA.out.later hb)
    replace MA := Lib.hid (MA.out.later hb)
    clear hb
    have LN := LN0
    clear LN0
    obtain ⟨LA_0, LA_1, LA_2, LA_3, LA_4⟩ := LA.out.cells
    obtain ⟨LN_0, LN_1, LN_2, LN_3, LN_4⟩ := LN.out.cells
    obtain ⟨MA_0, MA_1, MA_2⟩ := MA.out.cells
    have Q1 := Lib.hid q1
    have Q2 := Lib.hid q2
    have Q3 := Lib.hid q3
    have Q4 := Lib.hid q4
    clear q1 q2 q3 q4
    rcases Q1.out with ⟨ha1, hto, he1, hst, hto0⟩ | ⟨ha1, hto⟩ | ⟨ha1, hto⟩
    · subst ha1
      rw [hst] at LN_0
      rw [he1] at LN_2
      subst hto
      clear hst he1
      rcases Q2.out with ⟨hb1, htb⟩ | hb1 | hb1
      · subst hb1
        subst htb
        clear Q1 Q2 Q3 Q4
        go_wp2_with fail
        go_ret
        exact ⟨rfl, HW.out⟩
      · subst hb1
        clear Q1 Q2 Q3 Q4
        go_wp2_with fail
        go_ret
        exact ⟨rfl, HW.out⟩
      · subst hb1
        clear Q1 Q2 Q3 Q4
        go_wp2_with fail
        go_ret
        exact ⟨rfl, HW.out⟩
    · subst ha1
      subst hto
      rcases Q2.out with ⟨hb1, htb⟩ | hb1 | hb1
      · subst hb1
        subst htb
        clear Q1 Q2 Q3 Q4
        go_wp2_with fail
        go_ret
        exact ⟨rfl, HW.out⟩
      · subst hb1
        clear Q1 Q2 Q3 Q4
        go_wp2_with fail
        go_ret
        exact ⟨rfl, HW.out⟩
      · subst hb1
        clear Q1 Q2 Q3 Q4
        go_wp2_with fail
        go_ret
        exact ⟨rfl, HW.out⟩
    · subst ha1
      subst hto
      obtain rfl := Q3.out rfl
      have z0 : (0 : Int) ≤ 0 := Int.le_refl _
      clear Q1 Q2 Q3 Q4
      go_wp2_with fail
      go_ret
      exact ⟨rfl, HW.out⟩
  · have EK := Lib.hid (show keepR es m = ((0, 0), 140) from if_neg (fun h => hu (by rw [HLD.out]; exact h.2)))
    have n1 : ¬ L.s = 1 := fun h => hu (.inl h)
    have n2 : ¬ L.s = 2 := fun h => hu (.inr h)
    have t1 : (L.s == 1) = false := by rw [beq_eq_false_iff_ne]; exact n1
    have t2 : (L.s == 2) = false := by rw [beq_eq_false_iff_ne]; exact n2
    clear hu
    go_wp2_with fail
    refine (lkeep_any _ es m _ HL.out).mono ?_
    unfold KeepPost
    rintro e W5 ⟨rfl, hb⟩
    rw [EK.out]
    dsimp only [lnA]
    replace HW := Lib.hid (below_trans HW.out hb)
    replace HL := Lib.hid (HL.out.later hb)
    replace LA := Lib.hid (LA.out.later hb)
    clear hb
    go_upto_region 9 with fail
    obtain ⟨W6, hnew⟩ : ∃ W, W = W5.alloc (.cells #[.int .i64 0, .int .i64 0] 28) := ⟨_, rfl⟩
    rw [← hnew]
    obtain ⟨MAq, MAh⟩ : ∃ q, q = W5.heap.size := ⟨_, rfl⟩
    rw [← MAh]
    have MA0 : Hid (MlAt W6 MAq 0 0) := Lib.hid (by rw [hnew, MAh]; exact MlAt.new W5 0 0)
    have hb : Below W5.heap.size W5 W6 := by rw [hnew]; exact below_new _ _
    clear hnew MAh
    replace HW := Lib.hid (below_trans HW.out hb)
    replace HL := Lib.hid (HL.out.later hb)
    replace LA := Lib.hid (LA.out.later hb)
    clear hb
    have MA := MA0
    clear MA0
    obtain ⟨LA_0, LA_1, LA_2, LA_3, LA_4⟩ := LA.out.cells
    obtain ⟨MA_0, MA_1, MA_2⟩ := MA.out.cells
    have guard := fun W => run_eqGuard_agg (P := Try.prog) (w := W) .eql 28
    have hn : ∀ w, (binOp .eql 28 (.agg #[.int .i64 0, .int .i64 0]) (.agg #[.int .i64 0, .int .i64 0])).run Try.prog w = .ok (.bool true) w := fun w => by rw [eqlMl]; simp
    go_wp2_with fail
    go_ret
    exact ⟨rfl, HW.out⟩
end Go.Proofs.Yteilkigdlkeiaaa
