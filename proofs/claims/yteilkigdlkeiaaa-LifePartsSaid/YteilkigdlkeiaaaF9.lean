/-
  The contract of the law LifeParts: it returns true.
-/
import Derived.Test.YteilkigdlkeiaaaC1
import Derived.Deep.RegionHeld3
import Derived.Deep.DrawnRows
namespace Go.Proofs.Yteilkigdlkeiaaa
open Go Go.RowKit Go.Dial Go.Dial.Lif
attribute [local go_sem] Oper.semAt_some
attribute [local go_sem ↓] Go.wp_at_zero Go.wp_at_succ

set_option maxRecDepth 100000 in
set_option maxHeartbeats 8000000 in
theorem law9_any (Ax : Option Addr) (cx : Nat) (xs : List T3) (t u : Int) (w : World) (hlen : xs.length ≤ maxLen) (hS : Span w w.heap.size 3 Ax xs.length (xs.flatMap tcells))
    (hb : (∀ x ∈ xs, Tri x) ∧ I64 t ∧ I64 u) :
    Calls Try.prog 9 #[.slice Ax xs.length cx, .int .i64 t, .int .i64 u] w fun e w' => e = .returned (.bool true) ∧ Below w.heap.size w w' := by
  obtain ⟨ha, ht, hu⟩ := hb
  obtain ⟨hAll, hL16⟩ := made_life xs
  obtain ⟨es, hes⟩ : ∃ es, es = madeV xs := ⟨_, rfl⟩
  rw [← hes] at hAll hL16
  have HES := Lib.hid hes
  have HALL := Lib.hid hAll
  have HSM := Lib.hid (small_all hAll)
  have HLIFE := Lib.hid (show Life es from ⟨hAll, by omega⟩)
  clear hes hAll
  have bt := timeV_bd es t
  obtain ⟨m, hm⟩ : ∃ m, m = timeV es t := ⟨_, rfl⟩
  rw [← hm] at bt
  have HM := Lib.hid hm
  obtain ⟨K, hK⟩ : ∃ K, K = upto es m := ⟨_, rfl⟩
  have hKl : K ≤ es.length := by rw [hK]; exact upto_le es m
  have HKL := Lib.hid (show ∀ i (h : i < es.length), i < K → es[i].a ≤ m from fun i h hi => by rw [hK] at hi; exact upto_lt hi)
  have HKG := Lib.hid (show ∀ h : K < es.length, m < es[K].a from fun h => by simp only [hK] at h ⊢; exact upto_at h)
  obtain ⟨L, hLd⟩ : ∃ L, L = atL es m := ⟨_, rfl⟩
  have E1 := Lib.hid (show atR es m = (L, 0) by rw [hLd]; exact atR_ok HLIFE.out bt.1 bt.2)
  have HLD := Lib.hid hLd
  have HKD := Lib.hid hK
  clear hm hK hLd
  have hm0 := bt.1
  have hm1 := bt.2
  clear bt
  have E2 := Lib.hid (show atR (es.take K) m = (L, 0) by
    rw [atR_ok (life_take HLIFE.out K) hm0 hm1, HKD.out, take_upto HALL.out m hm0 (Int.le_refl _), ← HLD.out])
  have bn := timeV_bd es u
  obtain ⟨n, hn⟩ : ∃ n, n = timeV es u := ⟨_, rfl⟩
  rw [← hn] at bn
  have HN := Lib.hid hn
  obtain ⟨n0, n1⟩ := bn
  clear hn
  have HSX := Lib.hid hS
  have HW : Hid (Below w.heap.size w w) := Lib.hid (Below.refl _ _)
  obtain ⟨W0, hW0⟩ : ∃ W0, W0 = w := ⟨_, rfl⟩
  rw [← hW0] at HSX HW
  subst hW0
  clear hS
  go_enter Try.func9, Try.ntmps9
  go_wp2_with fail
  refine (sane_any _).mono ?_
  rintro e W1 ⟨rfl, hb⟩
  replace HSX := Lib.hid ((HSX.out.below hb (Nat.le_refl _)).mono hb.size)
  replace HW := Lib.hid (below_trans HW.out hb)
  clear hb
  go_wp2_with fail
  refine (rmade_any Ax cx xs _ hlen HSX.out ha).mono ?_
  rintro e W2 ⟨⟨vl, rfl, h1⟩, hb⟩
  clear HSX
  replace HW := Lib.hid (below_trans HW.out hb)
  clear hb
  rw [← HES.out] at h1
  have HL := Lib.hid h1
  clear h1
  obtain ⟨A, c, rfl⟩ := holds_form HL.out (n := es.length) rfl
  obtain ⟨_, hc1, hc2⟩ := holds_cap HL.out
  go_wp2_with fail
  refine (rtime_any _ es t _ HL.out ht HSM.out (by omega)).mono ?_
  rintro e wq ⟨rfl, rfl⟩
  rw [← HM.out]
  go_wp2_with fail
  go_loopw [9] (fun i wr => ∃ j : Nat, j ≤ K ∧ i = .int .i64 j ∧ Below W2.heap.size W2 wr) (fun i _ => es.length - (intOf i).toNat)
  case atStart => exact ⟨0, Nat.zero_le _, rfl, Below.refl _ _⟩
  case round =>
    obtain ⟨j, hj, rfl, hbr⟩ := hrel
    have HLR := Lib.hid (HL.out.later hbr)
    have HBR := Lib.hid hbr
    have z0 : (0 : Int) ≤ (j : Int) := by omega
    clear hbr
    by_cases hjK : j < K
    · have hjn : j < es.length := by omega
      obtain ⟨ad, rfl, _, x1, _⟩ := ev_at HLR.out hjn
      have hle := HKL.out j hjn hjK
      obtain ⟨b, hb⟩ : ∃ b, b = es[j].a := ⟨_, rfl⟩
      rw [← hb] at x1 hle
      clear hb
      have z1 : (j : Int) < (es.length : Int) := by omega
      go_wp2_with fail
      exact ⟨⟨j + 1, by omega, by go_num, HBR.out⟩, by simp [intOf]; omega⟩
    · obtain rfl : K = j := by omega
      clear hj hjK
      go_upto_region 6 with fail
      go_cut [41] (fun v wx => v = .bool false ∧ wr = wx)
      case first =>
        by_cases hjn : K < es.length
        · obtain ⟨ad, rfl, _, x1, _⟩ := ev_at HLR.out hjn
          have hle := HKG.out hjn
          obtain ⟨b, hb⟩ : ∃ b, b = es[K].a := ⟨_, rfl⟩
          rw [← hb] at x1 hle
          have hle2 : ¬ b ≤ m := by omega
          clear hb
          have z1 : (K : Int) < (es.length : Int) := by omega
          go_wp2_with fail
          go_meet
          exact ⟨rfl, rfl⟩
        · have z1 : ¬ (K : Int) < (es.length : Int) := by omega
          go_wp2_with fail
          go_meet
          exact ⟨rfl, rfl⟩
      obtain ⟨rfl, rfl⟩ := hcut
      obtain ⟨W3, hW3⟩ : ∃ W, W = wr := ⟨_, rfl⟩
      subst hW3
      replace HW := Lib.hid (below_trans HW.out HBR.out)
      replace HL := HLR
      clear HBR HLR
      go_wp2_with fail
      refine (lAt_any _ es m _ HL.out).mono ?_
      rw [AtPost2Eq]
      rintro e W4 ⟨rfl, hb⟩
      rw [E1.out]
      dsimp only [lnA]
      replace HW := Lib.hid (below_trans HW.out hb)
      replace HL := Lib.hid (HL.out.later hb)
      clear hb
      go_wp2_with fail
      obtain ⟨W5, hnew⟩ : ∃ W, W = W4.alloc (.cells #[.int .i64 L.s, .int .i64 L.h, .int .i64 L.e, .int .i64 L.t] 26) := ⟨_, rfl⟩
      rw [← hnew]
      obtain ⟨LAq, LAh⟩ : ∃ q, q = W4.heap.size := ⟨_, rfl⟩
      rw [← LAh]
      have LA0 : Hid (LnAt W5 LAq L) := Lib.hid (by rw [hnew, LAh]; exact LnAt.new W4 L)
      have hb : Below W4.heap.size W4 W5 := by rw [hnew]; exact below_new _ _
      clear hnew LAh
      replace HW := Lib.hid (below_trans HW.out hb)
      replace HL := Lib.hid (HL.out.later hb)
      clear hb
      have LA := LA0
      clear LA0
      obtain ⟨hcn, hcc⟩ : (K : Int) ≤ (c : Int) ∧ (0 : Int) ≤ (K : Int) := by omega
      go_wp2_with fail
      refine (lAt_any _ (es.take K) m _ (holds_take evc_len HL.out hKl)).mono ?_
      rw [AtPost2Eq]
      rintro e W6 ⟨rfl, hb⟩
      rw [E2.out]
      dsimp only [lnA]
      replace HW := Lib.hid (below_trans HW.out hb)
      replace HL := Lib.hid (HL.out.later hb)
      replace LA := Lib.hid (LA.out.later hb)
      clear hb
      go_wp2_with fail
      obtain ⟨W7, hnew⟩ : ∃ W, W = W6.alloc (.cells #[.int .i64 L.s, .int .i64 L.h, .int .i64 L.e, .int .i64 L.t] 26) := ⟨_, rfl⟩
      rw [← hnew]
      obtain ⟨LBq, LBh⟩ : ∃ q, q = W6.heap.size := ⟨_, rfl⟩
      rw [← LBh]
      have LB0 : Hid (LnAt W7 LBq L) := Lib.hid (by rw [hnew, LBh]; exact LnAt.new W6 L)
      have hb : Below W6.heap.size W6 W7 := by rw [hnew]; exact below_new _ _
      clear hnew LBh
      replace HW := Lib.hid (below_trans HW.out hb)
      replace HL := Lib.hid (HL.out.later hb)
      replace LA := Lib.hid (LA.out.later hb)
      clear hb
      have LB := LB0
      clear LB0
      go_wp2_with fail
      refine (rtime_any _ es u _ HL.out hu HSM.out (by omega)).mono ?_
      rintro e wq ⟨rfl, rfl⟩
      rw [← HN.out]
      by_cases hnm : n < m
      · go_wp2_with fail
        obtain ⟨P, hPd⟩ : ∃ P, P = atL es n := ⟨_, rfl⟩
        have p0 : 0 ≤ n := by omega
        have p1 : n ≤ m := by omega
        have HPD := Lib.hid hPd
        have HPT : Hid (atL (es.take K) n = P) := Lib.hid (by rw [hPd, HKD.out]; exact take_upto HALL.out m p0 p1)
        clear hPd
        by_cases hu : Used P
        · have EK := Lib.hid (show keepR es n = ((P.e, n), 0) by rw [HPD.out]; exact if_pos ⟨⟨HLIFE.out, p0, by omega⟩, by rw [← HPD.out]; exact hu⟩)
          obtain ⟨⟨fa, tp⟩, hfa⟩ : ∃ r, r = fateV L P.e := ⟨_, rfl⟩
          have EF1 := Lib.hid (show fateR es P.e n m = ((fa, tp), 0) by rw [hfa, HLD.out]; exact if_pos ⟨⟨⟨HLIFE.out, p0, by omega⟩, by rw [← HPD.out]; exact hu⟩, by rw [← HPD.out], p1, hm1⟩)
          have EF2 := Lib.hid (show fateR (es.take K) P.e n m = ((fa, tp), 0) by
            have e : atL (es.take K) m = L := by rw [HKD.out, take_upto HALL.out m hm0 (Int.le_refl _), ← HLD.out]
            rw [fateR, e, ← hfa]; exact if_pos ⟨⟨⟨life_take HLIFE.out K, p0, by omega⟩, by rw [HPT.out]; exact hu⟩, by rw [HPT.out], p1, hm1⟩)
          clear hfa hu
          go_wp2_with fail
          refine (lkeep_any _ es n _ HL.out).mono ?_
          unfold KeepPost
          rintro e W8 ⟨rfl, hb⟩
          rw [EK.out]
          dsimp only [lnA]
          replace HW := Lib.hid (below_trans HW.out hb)
          replace HL := Lib.hid (HL.out.later hb)
          replace LA := Lib.hid (LA.out.later hb)
          replace LB := Lib.hid (LB.out.later hb)
          clear hb
          go_upto_region 11 with fail
          obtain ⟨W9, hnew⟩ : ∃ W, W = W8.alloc (.cells #[.int .i64 P.e, .int .i64 n] 28) := ⟨_, rfl⟩
          rw [← hnew]
          obtain ⟨MAq, MAh⟩ : ∃ q, q = W8.heap.size := ⟨_, rfl⟩
          rw [← MAh]
          have MA0 : Hid (MlAt W9 MAq P.e n) := Lib.hid (by rw [hnew, MAh]; exact MlAt.new W8 P.e n)
          have hb : Below W8.heap.size W8 W9 := by rw [hnew]; exact below_new _ _
          clear hnew MAh
          replace HW := Lib.hid (below_trans HW.out hb)
          replace HL := Lib.hid (HL.out.later hb)
          replace LA := Lib.hid (LA.out.later hb)
          replace LB := Lib.hid (LB.out.later hb)
          clear hb
          have MA := MA0
          clear MA0
          obtain ⟨LA_0, LA_1, LA_2, LA_3, LA_4⟩ := LA.out.cells
          obtain ⟨LB_0, LB_1, LB_2, LB_3, LB_4⟩ := LB.out.cells
          have guard := fun W => run_eqGuard_agg (P := Try.prog) (w := W) .neq 26
          have hn : ∀ w, (binOp .neq 26 (.agg #[.int .i64 L.s, .int .i64 L.h, .int .i64 L.e, .int .i64 L.t]) (.agg #[.int .i64 L.s, .int .i64 L.h, .int .i64 L.e, .int .i64 L.t])).run Try.prog w = .ok (.bool false) w := fun w => by rw [neqLn]; simp
          go_upto_region 15 with fail
          clear LA_0 LA_1 LA_2 LA_3 LA_4 LB_0 LB_1 LB_2 LB_3 LB_4 guard hn
          obtain ⟨MA_0, MA_1, MA_2⟩ := MA.out.cells
          go_wp2_with fail
          refine (lfate_any _ es P.e n m _ HL.out).mono ?_
          unfold FatePost
          rintro e W10 ⟨rfl, hb⟩
          rw [EF1.out]
          dsimp only [lnA]
          clear MA_0 MA_1 MA_2
          replace HW := Lib.hid (below_trans HW.out hb)
          replace HL := Lib.hid (HL.out.later hb)
          replace LA := Lib.hid (LA.out.later hb)
          replace LB := Lib.hid (LB.out.later hb)
          replace MA := Lib.hid (MA.out.later hb)
          clear hb
          obtain ⟨MA_0, MA_1, MA_2⟩ := MA.out.cells
          go_upto_region 16 with fail
          go_region_with (go_at_call 30; refine (lfate_any _ (es.take K) P.e n m _ (holds_take evc_len (HL.out.later (Below.refl _ _).drew) hKl)).mono ?_; unfold FatePost; rintro e W11 ⟨rfl, hb⟩; rw [EF2.out]; dsimp only)
          all_goals
            have HB := Lib.hid (show Below W10.heap.size W10 W11 from below_trans (Below.refl _ W10).drew hb)
            clear hb MA_0 MA_1 MA_2
            go_wp2_with fail
            go_ret
            exact ⟨rfl, below_trans HW.out HB.out⟩
        · have EK := Lib.hid (show keepR es n = ((0, 0), 140) from if_neg (fun h => hu (by rw [HPD.out]; exact h.2)))
          clear hu
          go_wp2_with fail
          refine (lkeep_any _ es n _ HL.out).mono ?_
          unfold KeepPost
          rintro e W8 ⟨rfl, hb⟩
          rw [EK.out]
          dsimp only [lnA]
          replace HW := Lib.hid (below_trans HW.out hb)
          replace HL := Lib.hid (HL.out.later hb)
          replace LA := Lib.hid (LA.out.later hb)
          replace LB := Lib.hid (LB.out.later hb)
          clear hb
          go_upto_region 11 with fail
          obtain ⟨W9, hnew⟩ : ∃ W, W = W8.alloc (.cells #[.int .i64 0, .int .i64 0] 28) := ⟨_, rfl⟩
          rw [← hnew]
          obtain ⟨MAq, MAh⟩ : ∃ q, q = W8.heap.size := ⟨_, rfl⟩
          rw [← MAh]
          have MA0 : Hid (MlAt W9 MAq 0 0) := Lib.hid (by rw [hnew, MAh]; exact MlAt.new W8 0 0)
          have hb : Below W8.heap.size W8 W9 := by rw [hnew]; exact below_new _ _
          clear hnew MAh
          replace HW := Lib.hid (below_trans HW.out hb)
          replace HL := Lib.hid (HL.out.later hb)
          replace LA := Lib.hid (LA.out.later hb)
          replace LB := Lib.hid (LB.out.later hb)
          clear hb
          have MA := MA0
          clear MA0
          obtain ⟨LA_0, LA_1, LA_2, LA_3, LA_4⟩ := LA.out.cells
          obtain ⟨LB_0, LB_1, LB_2, LB_3, LB_4⟩ := LB.out.cells
          have guard := fun W => run_eqGuard_agg (P := Try.prog) (w := W) .neq 26
          have hn : ∀ w, (binOp .neq 26 (.agg #[.int .i64 L.s, .int .i64 L.h, .int .i64 L.e, .int .i64 L.t]) (.agg #[.int .i64 L.s, .int .i64 L.h, .int .i64 L.e, .int .i64 L.t])).run Try.prog w = .ok (.bool false) w := fun w => by rw [neqLn]; simp
          go_wp2_with fail
          go_ret
          exact ⟨rfl, HW.out⟩
      · go_wp2_with fail
        obtain ⟨P, hPd⟩ : ∃ P, P = atL es m := ⟨_, rfl⟩
        have p0 : 0 ≤ m := by omega
        have p1 : m ≤ m := by omega
        have HPD := Lib.hid hPd
        have HPT : Hid (atL (es.take K) m = P) := Lib.hid (by rw [hPd, HKD.out]; exact take_upto HALL.out m p0 p1)
        clear hPd
        by_cases hu : Used P
        · have EK := Lib.hid (show keepR es m = ((P.e, m), 0) by rw [HPD.out]; exact if_pos ⟨⟨HLIFE.out, p0, by omega⟩, by rw [← HPD.out]; exact hu⟩)
          obtain ⟨⟨fa, tp⟩, hfa⟩ : ∃ r, r = fateV L P.e := ⟨_, rfl⟩
          have EF1 := Lib.hid (show fateR es P.e m m = ((fa, tp), 0) by rw [hfa, HLD.out]; exact if_pos ⟨⟨⟨HLIFE.out, p0, by omega⟩, by rw [← HPD.out]; exact hu⟩, by rw [← HPD.out], p1, hm1⟩)
          have EF2 := Lib.hid (show fateR (es.take K) P.e m m = ((fa, tp), 0) by
            have e : atL (es.take K) m = L := by rw [HKD.out, take_upto HALL.out m hm0 (Int.le_refl _), ← HLD.out]
            rw [fateR, e, ← hfa]; exact if_pos ⟨⟨⟨life_take HLIFE.out K, p0, by omega⟩, by rw [HPT.out]; exact hu⟩, by rw [HPT.out], p1, hm1⟩)
          clear hfa hu
          go_wp2_with fail
          refine (lkeep_any _ es m _ HL.out).mono ?_
          unfold KeepPost
          rintro e W8 ⟨rfl, hb⟩
          rw [EK.out]
          dsimp only [lnA]
          replace HW := Lib.hid (below_trans HW.out hb)
          replace HL := Lib.hid (HL.out.later hb)
          replace LA := Lib.hid (LA.out.later hb)
          replace LB := Lib.hid (LB.out.later hb)
          clear hb
          go_upto_region 11 with fail
          obtain ⟨W9, hnew⟩ : ∃ W, W = W8.alloc (.cells #[.int .i64 P.e, .int .i64 m] 28) := ⟨_, rfl⟩
          rw [← hnew]
          obtain ⟨MAq, MAh⟩ : ∃ q, q = W8.heap.size := ⟨_, rfl⟩
          rw [← MAh]
          have MA0 : Hid (MlAt W9 MAq P.e m) := Lib.hid (by rw [hnew, MAh]; exact MlAt.new W8 P.e m)
          have hb : Below W8.heap.size W8 W9 := by rw [hnew]; exact below_new _ _
          clear hnew MAh
          replace HW := Lib.hid (below_trans HW.out hb)
          replace HL := Lib.hid (HL.out.later hb)
          replace LA := Lib.hid (LA.out.later hb)
          replace LB := Lib.hid (LB.out.later hb)
          clear hb
          have MA := MA0
          clear MA0
          obtain ⟨LA_0, LA_1, LA_2, LA_3, LA_4⟩ := LA.out.cells
          obtain ⟨LB_0, LB_1, LB_2, LB_3, LB_4⟩ := LB.out.cells
          have guard := fun W => run_eqGuard_agg (P := Try.prog) (w := W) .neq 26
          have hn : ∀ w, (binOp .neq 26 (.agg #[.int .i64 L.s, .int .i64 L.h, .int .i64 L.e, .int .i64 L.t]) (.agg #[.int .i64 L.s, .int .i64 L.h, .int .i64 L.e, .int .i64 L.t])).run Try.prog w = .ok (.bool false) w := fun w => by rw [neqLn]; simp
          go_upto_region 15 with fail
          clear LA_0 LA_1 LA_2 LA_3 LA_4 LB_0 LB_1 LB_2 LB_3 LB_4 guard hn
          obtain ⟨MA_0, MA_1, MA_2⟩ := MA.out.cells
          go_wp2_with fail
          refine (lfate_any _ es P.e m m _ HL.out).mono ?_
          unfold FatePost
          rintro e W10 ⟨rfl, hb⟩
          rw [EF1.out]
          dsimp only [lnA]
          clear MA_0 MA_1 MA_2
          replace HW := Lib.hid (below_trans HW.out hb)
          replace HL := Lib.hid (HL.out.later hb)
          replace LA := Lib.hid (LA.out.later hb)
          replace LB := Lib.hid (LB.out.later hb)
          replace MA := Lib.hid (MA.out.later hb)
          clear hb
          obtain ⟨MA_0, MA_1, MA_2⟩ := MA.out.cells
          go_upto_region 16 with fail
          go_region_with (go_at_call 30; refine (lfate_any _ (es.take K) P.e m m _ (holds_take evc_len (HL.out.later (Below.refl _ _).drew) hKl)).mono ?_; unfold FatePost; rintro e W11 ⟨rfl, hb⟩; rw [EF2.out]; dsimp only)
          all_goals
            have HB := Lib.hid (show Below W10.heap.size W10 W11 from below_trans (Below.refl _ W10).drew hb)
            clear hb MA_0 MA_1 MA_2
            go_wp2_with fail
            go_ret
            exact ⟨rfl, below_trans HW.out HB.out⟩
        · have EK := Lib.hid (show keepR es m = ((0, 0), 140) from if_neg (fun h => hu (by rw [HPD.out]; exact h.2)))
          clear hu
          go_wp2_with fail
          refine (lkeep_any _ es m _ HL.out).mono ?_
          unfold KeepPost
          rintro e W8 ⟨rfl, hb⟩
          rw [EK.out]
          dsimp only [lnA]
          replace HW := Lib.hid (below_trans HW.out hb)
          replace HL := Lib.hid (HL.out.later hb)
          replace LA := Lib.hid (LA.out.later hb)
          replace LB := Lib.hid (LB.out.later hb)
          clear hb
          go_upto_region 11 with fail
          obtain ⟨W9, hnew⟩ : ∃ W, W = W8.alloc (.cells #[.int .i64 0, .int .i64 0] 28) := ⟨_, rfl⟩
          rw [← hnew]
          obtain ⟨MAq, MAh⟩ : ∃ q, q = W8.heap.size := ⟨_, rfl⟩
          rw [← MAh]
          have MA0 : Hid (MlAt W9 MAq 0 0) := Lib.hid (by rw [hnew, MAh]; exact MlAt.new W8 0 0)
          have hb : Below W8.heap.size W8 W9 := by rw [hnew]; exact below_new _ _
          clear hnew MAh
          replace HW := Lib.hid (below_trans HW.out hb)
          replace HL := Lib.hid (HL.out.later hb)
          replace LA := Lib.hid (LA.out.later hb)
          replace LB := Lib.hid (LB.out.later hb)
          clear hb
          have MA := MA0
          clear MA0
          obtain ⟨LA_0, LA_1, LA_2, LA_3, LA_4⟩ := LA.out.cells
          obtain ⟨LB_0, LB_1, LB_2, LB_3, LB_4⟩ := LB.out.cells
          have guard := fun W => run_eqGuard_agg (P := Try.prog) (w := W) .neq 26
          have hn : ∀ w, (binOp .neq 26 (.agg #[.int .i64 L.s, .int .i64 L.h, .int .i64 L.e, .int .i64 L.t]) (.agg #[.int .i64 L.s, .int .i64 L.h, .int .i64 L.e, .int .i64 L.t])).run Try.prog w = .ok (.bool false) w := fun w => by rw [neqLn]; simp
          go_wp2_with fail
          go_ret
          exact ⟨rfl, HW.out⟩
end Go.Proofs.Yteilkigdlkeiaaa
