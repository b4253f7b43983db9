/-
  The contract of the law LifeOne: it returns true.
-/
import Derived.Test.YteilkigdlkeiaaaC1
import Derived.Deep.RegionHeld3
import Derived.Deep.DrawnRows
namespace Go.Proofs.Yteilkigdlkeiaaa
open Go Go.RowKit Go.Dial Go.Dial.Lif
attribute [local go_sem] Oper.semAt_some
attribute [local go_sem ↓] Go.wp_at_zero Go.wp_at_succ

set_option maxRecDepth 100000 in
set_option maxHeartbeats 8000000 in
theorem law4_any (Ax : Option Addr) (cx : Nat) (xs : List T3) (t u : Int) (w : World) (hlen : xs.length ≤ maxLen) (hS : Span w w.heap.size 3 Ax xs.length (xs.flatMap tcells))
    (hb : (∀ x ∈ xs, Tri x) ∧ I64 t ∧ I64 u) :
    Calls Try.prog 4 #[.slice Ax xs.length cx, .int .i64 t, .int .i64 u] w fun e w' => e = .returned (.bool true) ∧ Below w.heap.size w w' := by
  obtain ⟨ha, ht, hu⟩ := hb
  obtain ⟨hAll, hL16⟩ := made_life xs
  obtain ⟨es, hes⟩ : ∃ es, es = madeV xs := ⟨_, rfl⟩
  rw [← hes] at hAll hL16
  have HES := Lib.hid hes
  have HALL := Lib.hid hAll
  have HSM := Lib.hid (small_all hAll)
  have HLIFE := Lib.hid (show Life es from ⟨hAll, by omega⟩)
  clear hes hAll
  have bt := timeV_bd es t
  obtain ⟨m, hm⟩ : ∃ m, m = timeV es t := ⟨_, rfl⟩
  rw [← hm] at bt
  have HM := Lib.hid hm
  obtain ⟨K, hK⟩ : ∃ K, K = upto es m := ⟨_, rfl⟩
  have hKl : K ≤ es.length := by rw [hK]; exact upto_le es m
  have HKL := Lib.hid (show ∀ i (h : i < es.length), i < K → es[i].a ≤ m from fun i h hi => by rw [hK] at hi; exact upto_lt hi)
  have HKG := Lib.hid (show ∀ h : K < es.length, m < es[K].a from fun h => by simp only [hK] at h ⊢; exact upto_at h)
  obtain ⟨L, hLd⟩ : ∃ L, L = atL es m := ⟨_, rfl⟩
  have E1 := Lib.hid (show atR es m = (L, 0) by rw [hLd]; exact atR_ok HLIFE.out bt.1 bt.2)
  have E2 := Lib.hid (show runR (es.take K) = ((L, K), 0) by rw [hLd, hK]; exact fin_take_at HLIFE.out m)
  have E3 := Lib.hid (show vldB L = true by rw [hLd]; exact vldB_iff.2 (atL_vld HLIFE.out m))
  have HLK : Hid (L = lnK es K) := Lib.hid (by rw [hLd, hK, atL_eq])
  have HLM : Hid (L.t ≤ m) := Lib.hid (by have := ((upto_iff HALL.out hKl bt.1).1 hK).1; rw [HLK.out]; exact this)
  have HLD := Lib.hid hLd
  have HKD := Lib.hid hK
  clear hm hK hLd
  have hm0 := bt.1
  have hm1 := bt.2
  clear bt
  have HSX := Lib.hid hS
  have HW : Hid (Below w.heap.size w w) := Lib.hid (Below.refl _ _)
  obtain ⟨W0, hW0⟩ : ∃ W0, W0 = w := ⟨_, rfl⟩
  rw [← hW0] at HSX HW
  subst hW0
  clear hS
  go_enter Try.func4, Try.ntmps4
  go_wp2_with fail
  refine (sane_any _).mono ?_
  rintro e W1 ⟨rfl, hb⟩
  replace HSX := Lib.hid ((HSX.out.below hb (Nat.le_refl _)).mono hb.size)
  replace HW := Lib.hid (below_trans HW.out hb)
  clear hb
  go_wp2_with fail
  refine (rmade_any Ax cx xs _ hlen HSX.out ha).mono ?_
  rintro e W2 ⟨⟨vl, rfl, h1⟩, hb⟩
  clear HSX
  replace HW := Lib.hid (below_trans HW.out hb)
  clear hb
  rw [← HES.out] at h1
  have HL := Lib.hid h1
  clear h1
  obtain ⟨A, c, rfl⟩ := holds_form HL.out (n := es.length) rfl
  obtain ⟨_, hc1, hc2⟩ := holds_cap HL.out
  go_wp2_with fail
  refine (rtime_any _ es t _ HL.out ht HSM.out (by omega)).mono ?_
  rintro e wq ⟨rfl, rfl⟩
  rw [← HM.out]
  go_wp2_with fail
  go_loopw [9] (fun i wr => ∃ j : Nat, j ≤ K ∧ i = .int .i64 j ∧ Below W2.heap.size W2 wr) (fun i _ => es.length - (intOf i).toNat)
  case atStart => exact ⟨0, Nat.zero_le _, rfl, Below.refl _ _⟩
  case round =>
    obtain ⟨j, hj, rfl, hbr⟩ := hrel
    have HLR := Lib.hid (HL.out.later hbr)
    have HBR := Lib.hid hbr
    have z0 : (0 : Int) ≤ (j : Int) := by omega
    clear hbr
    by_cases hjK : j < K
    · have hjn : j < es.length := by omega
      obtain ⟨ad, rfl, _, x1, _⟩ := ev_at HLR.out hjn
      have hle := HKL.out j hjn hjK
      obtain ⟨b, hb⟩ : ∃ b, b = es[j].a := ⟨_, rfl⟩
      rw [← hb] at x1 hle
      clear hb
      have z1 : (j : Int) < (es.length : Int) := by omega
      go_wp2_with fail
      exact ⟨⟨j + 1, by omega, by go_num, HBR.out⟩, by simp [intOf]; omega⟩
    · obtain rfl : K = j := by omega
      clear hj hjK
      go_upto_region 6 with fail
      go_cut [38] (fun v wx => v = .bool false ∧ wr = wx)
      case first =>
        by_cases hjn : K < es.length
        · obtain ⟨ad, rfl, _, x1, _⟩ := ev_at HLR.out hjn
          have hle := HKG.out hjn
          obtain ⟨b, hb⟩ : ∃ b, b = es[K].a := ⟨_, rfl⟩
          rw [← hb] at x1 hle
          have hle2 : ¬ b ≤ m := by omega
          clear hb
          have z1 : (K : Int) < (es.length : Int) := by omega
          go_wp2_with fail
          go_meet
          exact ⟨rfl, rfl⟩
        · have z1 : ¬ (K : Int) < (es.length : Int) := by omega
          go_wp2_with fail
          go_meet
          exact ⟨rfl, rfl⟩
      obtain ⟨rfl, rfl⟩ := hcut
      obtain ⟨W3, hW3⟩ : ∃ W, W = wr := ⟨_, rfl⟩
      subst hW3
      replace HW := Lib.hid (below_trans HW.out HBR.out)
      replace HL := HLR
      clear HBR HLR
      go_wp2_with fail
      refine (lAt_any _ es m _ HL.out).mono ?_
      rw [AtPost2Eq]
      rintro e W4 ⟨rfl, hb⟩
      rw [E1.out]
      dsimp only [lnA]
      replace HW := Lib.hid (below_trans HW.out hb)
      replace HL := Lib.hid (HL.out.later hb)
      clear hb
      go_wp2_with fail
      obtain ⟨W5, hnew⟩ : ∃ W, W = W4.alloc (.cells #[.int .i64 L.s, .int .i64 L.h, .int .i64 L.e, .int .i64 L.t] 26) := ⟨_, rfl⟩
      rw [← hnew]
      obtain ⟨LAq, LAh⟩ : ∃ q, q = W4.heap.size := ⟨_, rfl⟩
      rw [← LAh]
      have LA0 : Hid (LnAt W5 LAq L) := Lib.hid (by rw [hnew, LAh]; exact LnAt.new W4 L)
      have hb : Below W4.heap.size W4 W5 := by rw [hnew]; exact below_new _ _
      clear hnew LAh
      replace HW := Lib.hid (below_trans HW.out hb)
      replace HL := Lib.hid (HL.out.later hb)
      clear hb
      have LA := LA0
      clear LA0
      obtain ⟨hcn, hcc⟩ : (K : Int) ≤ (c : Int) ∧ (0 : Int) ≤ (K : Int) := by omega
      go_wp2_with fail
      refine (lrun_any _ (es.take K) _ (holds_take evc_len HL.out hKl)).mono ?_
      rw [RunPostEq]
      rintro e W6 ⟨rfl, hb⟩
      rw [E2.out]
      dsimp only [lnA]
      replace HW := Lib.hid (below_trans HW.out hb)
      replace HL := Lib.hid (HL.out.later hb)
      replace LA := Lib.hid (LA.out.later hb)
      clear hb
      go_upto_region 10 with fail
      obtain ⟨W7, hnew⟩ : ∃ W, W = W6.alloc (.cells #[.int .i64 L.s, .int .i64 L.h, .int .i64 L.e, .int .i64 L.t] 26) := ⟨_, rfl⟩
      rw [← hnew]
      obtain ⟨LBq, LBh⟩ : ∃ q, q = W6.heap.size := ⟨_, rfl⟩
      rw [← LBh]
      have LB0 : Hid (LnAt W7 LBq L) := Lib.hid (by rw [hnew, LBh]; exact LnAt.new W6 L)
      have hb : Below W6.heap.size W6 W7 := by rw [hnew]; exact below_new _ _
      clear hnew LBh
      replace HW := Lib.hid (below_trans HW.out hb)
      replace HL := Lib.hid (HL.out.later hb)
      replace LA := Lib.hid (LA.out.later hb)
      clear hb
      have LB := LB0
      clear LB0
      obtain ⟨LA_0, LA_1, LA_2, LA_3, LA_4⟩ := LA.out.cells
      obtain ⟨LB_0, LB_1, LB_2, LB_3, LB_4⟩ := LB.out.cells
      have guard := fun W => run_eqGuard_agg (P := Try.prog) (w := W) .neq 26
      have hn : ∀ w, (binOp .neq 26 (.agg #[.int .i64 L.s, .int .i64 L.h, .int .i64 L.e, .int .i64 L.t]) (.agg #[.int .i64 L.s, .int .i64 L.h, .int .i64 L.e, .int .i64 L.t])).run Try.prog w = .ok (.bool false) w := fun w => by rw [neqLn]; simp
      go_wp2_with fail
      refine (lvalid_any L _).mono ?_
      rintro e W8 ⟨rfl, hb⟩
      rw [E3.out]
      replace HW := Lib.hid (below_trans HW.out hb)
      replace HL := Lib.hid (HL.out.later hb)
      replace LA := Lib.hid (LA.out.later hb)
      replace LB := Lib.hid (LB.out.later hb)
      clear hb
      clear LA_0 LA_1 LA_2 LA_3 LA_4 LB_0 LB_1 LB_2 LB_3 LB_4 guard hn
      obtain ⟨lt0, lt1⟩ : 0 ≤ L.t ∧ L.t ≤ 10000000 := by have h := vldB_iff.1 E3.out; exact ⟨h.2.2.2.2.1, h.2.2.2.2.2.1⟩
      have ltm := HLM.out
      have HLT := Lib.hid (show ∀ (h : K - 1 < es.length), 0 < K → es[K - 1].a = L.t from fun h h1 => by
        have := lnK_t h
        rw [show K - 1 + 1 = K by omega] at this
        rw [HLK.out, this])
      have HL0 := Lib.hid (show ¬ 0 < K → L.t = 0 from fun h => by rw [HLK.out, show K = 0 by omega]; rfl)
      by_cases h1 : 0 < K
      · by_cases h2 : K < es.length
        · obtain ⟨ad, rfl, _, x1, _⟩ := ev_at HL.out (j := K - 1) (by omega)
          rw [show es[K - 1].a = L.t from HLT.out (by omega) h1] at x1
          have k1 : ((K : Int) - 1).toNat = K - 1 := by omega
          have k2 : (0 : Int) < (K : Int) := by omega
          have k3 : (0 : Int) ≤ (K : Int) - 1 := by omega
          have k4 : (K : Int) - 1 < (es.length : Int) := by omega
          go_upto_region 15 with fail
          clear x1 k1 k2 k3 k4
          obtain ⟨ae, hae, _, x2, _⟩ := ev_at HL.out (j := K) h2
          obtain ⟨b, hbb⟩ : ∃ b, b = es[K].a := ⟨_, rfl⟩
          have hg := HKG.out h2
          have b2 := (HSM.out _ (List.getElem_mem h2)).2
          rw [← hbb] at x2 hg b2
          have HBB := Lib.hid hbb
          have s1 : IntKind.i64.wrap (b - 1) = b - 1 := IntWalk.i64_in _ (by omega)
          clear hbb
          first | subst hae | cases hae
          have k2 : (K : Int) < (es.length : Int) := by omega
          have hh : ∀ h : K < es.length, b - 1 < es[K].a := fun h => by have := HBB.out; omega
          obtain ⟨hi, hhi⟩ : ∃ hi, hi = b - 1 := ⟨_, rfl⟩
          rw [← hhi] at hh
          have hb1 : L.t ≤ hi ∧ hi ≤ 10000000 := by omega
          obtain ⟨h3, h4⟩ := hb1
          have HH := Lib.hid hh
          have HHI := Lib.hid hhi
          clear hh hhi
          go_upto_region 18 with fail
          rw [← HHI.out]
          clear x2 hg b2 s1 k2
          have bq := pickV_bd u (show (0 : Int) < hi - L.t + 1 by omega)
          obtain ⟨q, hq⟩ : ∃ q, q = pickV u (hi - L.t + 1) := ⟨_, rfl⟩
          rw [← hq] at bq
          have HQ := Lib.hid hq
          have q0 := bq.1
          have q1 := bq.2
          have EA := Lib.hid (show atR es (L.t + q) = (L, 0) by
            have e : atL es (L.t + q) = atL es m := atL_between HALL.out (by omega) (by rw [← HLD.out]; omega) (fun h => by
              have h5 : K < es.length := by rw [HKD.out]; exact h
              have h6 := HH.out h5
              simp only [HKD.out] at h6
              omega)
            rw [atR_ok HLIFE.out (by omega) (by omega), e, ← HLD.out])
          clear hq bq
          go_wp2_with fail
          refine (pick_any u (hi - L.t + 1) _ hu (by omega) (by omega)).mono ?_
          rintro e wq ⟨rfl, rfl⟩
          rw [← HQ.out]
          go_wp2_with fail
          refine (lAt_any _ es (L.t + q) _ HL.out).mono ?_
          rw [AtPost2Eq]
          rintro e W9 ⟨rfl, hb⟩
          rw [EA.out]
          dsimp only [lnA]
          replace HW := Lib.hid (below_trans HW.out hb)
          replace HL := Lib.hid (HL.out.later hb)
          replace LA := Lib.hid (LA.out.later hb)
          replace LB := Lib.hid (LB.out.later hb)
          clear hb
          go_upto_region 19 with fail
          obtain ⟨W10, hnew⟩ : ∃ W, W = W9.alloc (.cells #[.int .i64 L.s, .int .i64 L.h, .int .i64 L.e, .int .i64 L.t] 26) := ⟨_, rfl⟩
          rw [← hnew]
          obtain ⟨LCq, LCh⟩ : ∃ q, q = W9.heap.size := ⟨_, rfl⟩
          rw [← LCh]
          have LC0 : Hid (LnAt W10 LCq L) := Lib.hid (by rw [hnew, LCh]; exact LnAt.new W9 L)
          have hb : Below W9.heap.size W9 W10 := by rw [hnew]; exact below_new _ _
          clear hnew LCh
          replace HW := Lib.hid (below_trans HW.out hb)
          replace HL := Lib.hid (HL.out.later hb)
          replace LA := Lib.hid (LA.out.later hb)
          replace LB := Lib.hid (LB.out.later hb)
          clear hb
          have LC := LC0
          clear LC0
          obtain ⟨LA_0, LA_1, LA_2, LA_3, LA_4⟩ := LA.out.cells
          obtain ⟨LC_0, LC_1, LC_2, LC_3, LC_4⟩ := LC.out.cells
          have guard := fun W => run_eqGuard_agg (P := Try.prog) (w := W) .eql 26
          have hn : ∀ w, (binOp .eql 26 (.agg #[.int .i64 L.s, .int .i64 L.h, .int .i64 L.e, .int .i64 L.t]) (.agg #[.int .i64 L.s, .int .i64 L.h, .int .i64 L.e, .int .i64 L.t])).run Try.prog w = .ok (.bool true) w := fun w => by rw [eqlLn]; simp
          first
            | (go_quiet (fail)
               go_wp2_with fail
               go_ret
               exact ⟨rfl, below_drewN HW.out _⟩)
            | (go_wp2_with fail
               go_ret
               exact ⟨rfl, HW.out⟩)
        · obtain ⟨ad, rfl, _, x1, _⟩ := ev_at HL.out (j := K - 1) (by omega)
          rw [show es[K - 1].a = L.t from HLT.out (by omega) h1] at x1
          have k1 : ((K : Int) - 1).toNat = K - 1 := by omega
          have k2 : (0 : Int) < (K : Int) := by omega
          have k3 : (0 : Int) ≤ (K : Int) - 1 := by omega
          have k4 : (K : Int) - 1 < (es.length : Int) := by omega
          go_upto_region 15 with fail
          clear x1 k1 k2 k3 k4
          have k2 : ¬ (K : Int) < (es.length : Int) := by omega
          have hh : ∀ h : K < es.length, (10000000 : Int) < es[K].a := fun h => absurd h h2
          obtain ⟨hi, hhi⟩ : ∃ hi : Int, hi = 10000000 := ⟨_, rfl⟩
          rw [← hhi] at hh
          have hb1 : L.t ≤ hi ∧ hi ≤ 10000000 := by omega
          obtain ⟨h3, h4⟩ := hb1
          have HH := Lib.hid hh
          have HHI := Lib.hid hhi
          clear hh hhi
          go_upto_region 18 with fail
          rw [← HHI.out]
          clear k2
          have bq := pickV_bd u (show (0 : Int) < hi - L.t + 1 by omega)
          obtain ⟨q, hq⟩ : ∃ q, q = pickV u (hi - L.t + 1) := ⟨_, rfl⟩
          rw [← hq] at bq
          have HQ := Lib.hid hq
          have q0 := bq.1
          have q1 := bq.2
          have EA := Lib.hid (show atR es (L.t + q) = (L, 0) by
            have e : atL es (L.t + q) = atL es m := atL_between HALL.out (by omega) (by rw [← HLD.out]; omega) (fun h => by
              have h5 : K < es.length := by rw [HKD.out]; exact h
              have h6 := HH.out h5
              simp only [HKD.out] at h6
              omega)
            rw [atR_ok HLIFE.out (by omega) (by omega), e, ← HLD.out])
          clear hq bq
          go_wp2_with fail
          refine (pick_any u (hi - L.t + 1) _ hu (by omega) (by omega)).mono ?_
          rintro e wq ⟨rfl, rfl⟩
          rw [← HQ.out]
          go_wp2_with fail
          refine (lAt_any _ es (L.t + q) _ HL.out).mono ?_
          rw [AtPost2Eq]
          rintro e W9 ⟨rfl, hb⟩
          rw [EA.out]
          dsimp only [lnA]
          replace HW := Lib.hid (below_trans HW.out hb)
          replace HL := Lib.hid (HL.out.later hb)
          replace LA := Lib.hid (LA.out.later hb)
          replace LB := Lib.hid (LB.out.later hb)
          clear hb
          go_upto_region 19 with fail
          obtain ⟨W10, hnew⟩ : ∃ W, W = W9.alloc (.cells #[.int .i64 L.s, .int .i64 L.h, .int .i64 L.e, .int .i64 L.t] 26) := ⟨_, rfl⟩
          rw [← hnew]
          obtain ⟨LCq, LCh⟩ : ∃ q, q = W9.heap.size := ⟨_, rfl⟩
          rw [← LCh]
          have LC0 : Hid (LnAt W10 LCq L) := Lib.hid (by rw [hnew, LCh]; exact LnAt.new W9 L)
          have hb : Below W9.heap.size W9 W10 := by rw [hnew]; exact below_new _ _
          clear hnew LCh
          replace HW := Lib.hid (below_trans HW.out hb)
          replace HL := Lib.hid (HL.out.later hb)
          replace LA := Lib.hid (LA.out.later hb)
          replace LB := Lib.hid (LB.out.later hb)
          clear hb
          have LC := LC0
          clear LC0
          obtain ⟨LA_0, LA_1, LA_2, LA_3, LA_4⟩ := LA.out.cells
          obtain ⟨LC_0, LC_1, LC_2, LC_3, LC_4⟩ := LC.out.cells
          have guard := fun W => run_eqGuard_agg (P := Try.prog) (w := W) .eql 26
          have hn : ∀ w, (binOp .eql 26 (.agg #[.int .i64 L.s, .int .i64 L.h, .int .i64 L.e, .int .i64 L.t]) (.agg #[.int .i64 L.s, .int .i64 L.h, .int .i64 L.e, .int .i64 L.t])).run Try.prog w = .ok (.bool true) w := fun w => by rw [eqlLn]; simp
          first
            | (go_quiet (fail)
               go_wp2_with fail
               go_ret
               exact ⟨rfl, below_drewN HW.out _⟩)
            | (go_wp2_with fail
               go_ret
               exact ⟨rfl, HW.out⟩)
      · by_cases h2 : K < es.length
        · have k2 : ¬ (0 : Int) < (K : Int) := by omega
          have hl0 := HL0.out h1
          go_upto_region 15 with fail
          rw [← hl0]
          clear k2 hl0
          obtain ⟨ae, hae, _, x2, _⟩ := ev_at HL.out (j := K) h2
          obtain ⟨b, hbb⟩ : ∃ b, b = es[K].a := ⟨_, rfl⟩
          have hg := HKG.out h2
          have b2 := (HSM.out _ (List.getElem_mem h2)).2
          rw [← hbb] at x2 hg b2
          have HBB := Lib.hid hbb
          have s1 : IntKind.i64.wrap (b - 1) = b - 1 := IntWalk.i64_in _ (by omega)
          clear hbb
          first | subst hae | cases hae
          have k2 : (K : Int) < (es.length : Int) := by omega
          have hh : ∀ h : K < es.length, b - 1 < es[K].a := fun h => by have := HBB.out; omega
          obtain ⟨hi, hhi⟩ : ∃ hi, hi = b - 1 := ⟨_, rfl⟩
          rw [← hhi] at hh
          have hb1 : L.t ≤ hi ∧ hi ≤ 10000000 := by omega
          obtain ⟨h3, h4⟩ := hb1
          have HH := Lib.hid hh
          have HHI := Lib.hid hhi
          clear hh hhi
          go_upto_region 18 with fail
          rw [← HHI.out]
          clear x2 hg b2 s1 k2
          have bq := pickV_bd u (show (0 : Int) < hi - L.t + 1 by omega)
          obtain ⟨q, hq⟩ : ∃ q, q = pickV u (hi - L.t + 1) := ⟨_, rfl⟩
          rw [← hq] at bq
          have HQ := Lib.hid hq
          have q0 := bq.1
          have q1 := bq.2
          have EA := Lib.hid (show atR es (L.t + q) = (L, 0) by
            have e : atL es (L.t + q) = atL es m := atL_between HALL.out (by omega) (by rw [← HLD.out]; omega) (fun h => by
              have h5 : K < es.length := by rw [HKD.out]; exact h
              have h6 := HH.out h5
              simp only [HKD.out] at h6
              omega)
            rw [atR_ok HLIFE.out (by omega) (by omega), e, ← HLD.out])
          clear hq bq
          go_wp2_with fail
          refine (pick_any u (hi - L.t + 1) _ hu (by omega) (by omega)).mono ?_
          rintro e wq ⟨rfl, rfl⟩
          rw [← HQ.out]
          go_wp2_with fail
          refine (lAt_any _ es (L.t + q) _ HL.out).mono ?_
          rw [AtPost2Eq]
          rintro e W9 ⟨rfl, hb⟩
          rw [EA.out]
          dsimp only [lnA]
          replace HW := Lib.hid (below_trans HW.out hb)
          replace HL := Lib.hid (HL.out.later hb)
          replace LA := Lib.hid (LA.out.later hb)
          replace LB := Lib.hid (LB.out.later hb)
          clear hb
          go_upto_region 19 with fail
          obtain ⟨W10, hnew⟩ : ∃ W, W = W9.alloc (.cells #[.int .i64 L.s, .int .i64 L.h, .int .i64 L.e, .int .i64 L.t] 26) := ⟨_, rfl⟩
          rw [← hnew]
          obtain ⟨LCq, LCh⟩ : ∃ q, q = W9.heap.size := ⟨_, rfl⟩
          rw [← LCh]
          have LC0 : Hid (LnAt W10 LCq L) := Lib.hid (by rw [hnew, LCh]; exact LnAt.new W9 L)
          have hb : Below W9.heap.size W9 W10 := by rw [hnew]; exact below_new _ _
          clear hnew LCh
          replace HW := Lib.hid (below_trans HW.out hb)
          replace HL := Lib.hid (HL.out.later hb)
          replace LA := Lib.hid (LA.out.later hb)
          replace LB := Lib.hid (LB.out.later hb)
          clear hb
          have LC := LC0
          clear LC0
          obtain ⟨LA_0, LA_1, LA_2, LA_3, LA_4⟩ := LA.out.cells
          obtain ⟨LC_0, LC_1, LC_2, LC_3, LC_4⟩ := LC.out.cells
          have guard := fun W => run_eqGuard_agg (P := Try.prog) (w := W) .eql 26
          have hn : ∀ w, (binOp .eql 26 (.agg #[.int .i64 L.s, .int .i64 L.h, .int .i64 L.e, .int .i64 L.t]) (.agg #[.int .i64 L.s, .int .i64 L.h, .int .i64 L.e, .int .i64 L.t])).run Try.prog w = .ok (.bool true) w := fun w => by rw [eqlLn]; simp
          first
            | (go_quiet (fail)
               go_wp2_with fail
               go_ret
               exact ⟨rfl, below_drewN HW.out _⟩)
            | (go_wp2_with fail
               go_ret
               exact ⟨rfl, HW.out⟩)
        · have k2 : ¬ (0 : Int) < (K : Int) := by omega
          have hl0 := HL0.out h1
          go_upto_region 15 with fail
          rw [← hl0]
          clear k2 hl0
          have k2 : ¬ (K : Int) < (es.length : Int) := by omega
          have hh : ∀ h : K < es.length, (10000000 : Int) < es[K].a := fun h => absurd h h2
          obtain ⟨hi, hhi⟩ : ∃ hi : Int, hi = 10000000 := ⟨_, rfl⟩
          rw [← hhi] at hh
          have hb1 : L.t ≤ hi ∧ hi ≤ 10000000 := by omega
          obtain ⟨h3, h4⟩ := hb1
          have HH := Lib.hid hh
          have HHI := Lib.hid hhi
          clear hh hhi
          go_upto_region 18 with fail
          rw [← HHI.out]
          clear k2
          have bq := pickV_bd u (show (0 : Int) < hi - L.t + 1 by omega)
          obtain ⟨q, hq⟩ : ∃ q, q = pickV u (hi - L.t + 1) := ⟨_, rfl⟩
          rw [← hq] at bq
          have HQ := Lib.hid hq
          have q0 := bq.1
          have q1 := bq.2
          have EA := Lib.hid (show atR es (L.t + q) = (L, 0) by
            have e : atL es (L.t + q) = atL es m := atL_between HALL.out (by omega) (by rw [← HLD.out]; omega) (fun h => by
              have h5 : K < es.length := by rw [HKD.out]; exact h
              have h6 := HH.out h5
              simp only [HKD.out] at h6
              omega)
            rw [atR_ok HLIFE.out (by omega) (by omega), e, ← HLD.out])
          clear hq bq
          go_wp2_with fail
          refine (pick_any u (hi - L.t + 1) _ hu (by omega) (by omega)).mono ?_
          rintro e wq ⟨rfl, rfl⟩
          rw [← HQ.out]
          go_wp2_with fail
          refine (lAt_any _ es (L.t + q) _ HL.out).mono ?_
          rw [AtPost2Eq]
          rintro e W9 ⟨rfl, hb⟩
          rw [EA.out]
          dsimp only [lnA]
          replace HW := Lib.hid (below_trans HW.out hb)
          replace HL := Lib.hid (HL.out.later hb)
          replace LA := Lib.hid (LA.out.later hb)
          replace LB := Lib.hid (LB.out.later hb)
          clear hb
          go_upto_region 19 with fail
          obtain ⟨W10, hnew⟩ : ∃ W, W = W9.alloc (.cells #[.int .i64 L.s, .int .i64 L.h, .int .i64 L.e, .int .i64 L.t] 26) := ⟨_, rfl⟩
          rw [← hnew]
          obtain ⟨LCq, LCh⟩ : ∃ q, q = W9.heap.size := ⟨_, rfl⟩
          rw [← LCh]
          have LC0 : Hid (LnAt W10 LCq L) := Lib.hid (by rw [hnew, LCh]; exact LnAt.new W9 L)
          have hb : Below W9.heap.size W9 W10 := by rw [hnew]; exact below_new _ _
          clear hnew LCh
          replace HW := Lib.hid (below_trans HW.out hb)
          replace HL := Lib.hid (HL.out.later hb)
          replace LA := Lib.hid (LA.out.later hb)
          replace LB := Lib.hid (LB.out.later hb)
          clear hb
          have LC := LC0
          clear LC0
          obtain ⟨LA_0, LA_1, LA_2, LA_3, LA_4⟩ := LA.out.cells
          obtain ⟨LC_0, LC_1, LC_2, LC_3, LC_4⟩ := LC.out.cells
          have guard := fun W => run_eqGuard_agg (P := Try.prog) (w := W) .eql 26
          have hn : ∀ w, (binOp .eql 26 (.agg #[.int .i64 L.s, .int .i64 L.h, .int .i64 L.e, .int .i64 L.t]) (.agg #[.int .i64 L.s, .int .i64 L.h, .int .i64 L.e, .int .i64 L.t])).run Try.prog w = .ok (.bool true) w := fun w => by rw [eqlLn]; simp
          first
            | (go_quiet (fail)
               go_wp2_with fail
               go_ret
               exact ⟨rfl, below_drewN HW.out _⟩)
            | (go_wp2_with fail
               go_ret
               exact ⟨rfl, HW.out⟩)
end Go.Proofs.Yteilkigdlkeiaaa
