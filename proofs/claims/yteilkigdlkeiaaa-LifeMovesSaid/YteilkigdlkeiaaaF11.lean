/-
  The contract of the law LifeMoves: it returns true.
-/
import Derived.Test.YteilkigdlkeiaaaC2
import Derived.Deep.RegionHeld3
import Derived.Deep.DrawnRows
namespace Go.Proofs.Yteilkigdlkeiaaa
open Go Go.RowKit Go.Dial Go.Dial.Lif
attribute [local go_sem] Oper.semAt_some
attribute [local go_sem ↓] Go.wp_at_zero Go.wp_at_succ

set_option maxRecDepth 100000 in
set_option maxHeartbeats 8000000 in
theorem law11_any (Ax : Option Addr) (cx : Nat) (xs : List T3) (t u : Int) (w : World) (hlen : xs.length ≤ maxLen) (hS : Span w w.heap.size 3 Ax xs.length (xs.flatMap tcells))
    (hb : (∀ x ∈ xs, Tri x) ∧ I64 t ∧ I64 u) :
    Calls Try.prog 11 #[.slice Ax xs.length cx, .int .i64 t, .int .i64 u] w fun e w' => e = .returned (.bool true) ∧ Below w.heap.size w w' := by
  obtain ⟨ha, ht, hu⟩ := hb
  obtain ⟨hAll, hL16⟩ := made_life xs
  obtain ⟨es, hes⟩ : ∃ es, es = madeV xs := ⟨_, rfl⟩
  rw [← hes] at hAll hL16
  have HES := Lib.hid hes
  have HALL := Lib.hid hAll
  have HSM := Lib.hid (small_all hAll)
  have HLIFE := Lib.hid (show Life es from ⟨hAll, by omega⟩)
  clear hes hAll
  have bt := timeV_bd es t
  obtain ⟨m, hm⟩ : ∃ m, m = timeV es t := ⟨_, rfl⟩
  rw [← hm] at bt
  have HM := Lib.hid hm
  obtain ⟨m0, m1⟩ := bt
  obtain ⟨L, hLd⟩ : ∃ L, L = atL es m := ⟨_, rfl⟩
  have E1 := Lib.hid (show atR es m = (L, 0) by rw [hLd]; exact atR_ok HLIFE.out m0 m1)
  have HLD := Lib.hid hLd
  obtain ⟨i0, hi, hz0, hz1, hz2⟩ := info_parts infoEv
  clear hm hLd
  have HSX := Lib.hid hS
  have HW : Hid (Below w.heap.size w w) := Lib.hid (Below.refl _ _)
  obtain ⟨W0, hW0⟩ : ∃ W0, W0 = w := ⟨_, rfl⟩
  rw [← hW0] at HSX HW
  subst hW0
  clear hS
  go_enter Try.func11, Try.ntmps11
  go_wp2_with fail
  refine (sane_any _).mono ?_
  rintro e W1 ⟨rfl, hb⟩
  replace HSX := Lib.hid ((HSX.out.below hb (Nat.le_refl _)).mono hb.size)
  replace HW := Lib.hid (below_trans HW.out hb)
  clear hb
  go_wp2_with fail
  refine (rmade_any Ax cx xs _ hlen HSX.out ha).mono ?_
  rintro e W2 ⟨⟨vl, rfl, h1⟩, hb⟩
  clear HSX
  replace HW := Lib.hid (below_trans HW.out hb)
  clear hb
  rw [← HES.out] at h1
  have HL := Lib.hid h1
  clear h1
  obtain ⟨A, c, rfl⟩ := holds_form HL.out (n := es.length) rfl
  obtain ⟨_, hc1, hc2⟩ := holds_cap HL.out
  go_wp2_with fail
  refine (rtime_any _ es t _ HL.out ht HSM.out (by omega)).mono ?_
  rintro e wq ⟨rfl, rfl⟩
  rw [← HM.out]
  have s0 : IntKind.i64.wrap (10000000 - m) = 10000000 - m := IntWalk.i64_in _ (by omega)
  by_cases hN : 0 < es.length
  · obtain ⟨ae, hae, _, x1, _⟩ := ev_at HL.out (j := es.length - 1) (by omega)
    obtain ⟨b, hbb⟩ : ∃ b, b = (es[es.length - 1]'(by omega)).a := ⟨_, rfl⟩
    have hlast := Lib.hid (show ∀ e ∈ es, e.a ≤ b from fun e he => by
      obtain ⟨i, hi, rfl⟩ := List.getElem_of_mem he
      rw [hbb]; exact all_sorted HALL.out (by omega) (by omega))
    have bb := HSM.out _ (List.getElem_mem (show es.length - 1 < es.length by omega))
    rw [← hbb] at x1 bb
    obtain ⟨bb0, bb1⟩ := bb
    obtain ⟨R, hR⟩ : ∃ R : Int, R = min (10000000 - m) (10000000 - b) := ⟨_, rfl⟩
    have r0 : 0 ≤ R ∧ R ≤ 10000000 - m ∧ R ≤ 10000000 - b := by omega
    obtain ⟨r0, r1, r2⟩ := r0
    have HR := Lib.hid (show ∀ e ∈ es, e.a + R ≤ 10000000 from fun e he => by have := hlast.out e he; omega)
    have HRD := Lib.hid hR
    have s1 : IntKind.i64.wrap (10000000 - b) = 10000000 - b := IntWalk.i64_in _ (by omega)
    have k1 : ((es.length : Int) - 1).toNat = es.length - 1 := by omega
    have k2 : (0 : Int) < (es.length : Int) := by omega
    have k3 : (0 : Int) ≤ (es.length : Int) - 1 := by omega
    have k4 : (es.length : Int) - 1 < (es.length : Int) := by omega
    clear hbb hR
    first | subst hae | cases hae
    go_upto_region 8 with fail
    first
      | rw [show (if m < b then 10000000 - b else 10000000 - m : Int) = R by have := HRD.out; split <;> omega]
      | rw [show (if 10000000 - b < 10000000 - m then 10000000 - b else 10000000 - m : Int) = R by have := HRD.out; split <;> omega]
      | rw [show (if 10000000 - m < 10000000 - b then 10000000 - m else 10000000 - b : Int) = R by have := HRD.out; split <;> omega]
    clear x1 s0 s1 k1 k2 k3 k4
    have bq := pickV_bd u (show (0 : Int) < R + 1 by omega)
    obtain ⟨d, hd⟩ : ∃ d, d = pickV u (R + 1) := ⟨_, rfl⟩
    rw [← hd] at bq
    have HD := Lib.hid hd
    obtain ⟨d0, d1⟩ := bq
    have HDB := Lib.hid (show ∀ e ∈ es, e.a + d ≤ 10000000 from fun e he => by have := HR.out e he; omega)
    have E2 := Lib.hid (show atR (es.map (mv d)) (m + d) = (mvL d L, 0) by rw [HLD.out]; exact mv_at d0 HLIFE.out HDB.out m0 (by omega))
    clear hd
    go_wp2_with fail
    refine (pick_any u (R + 1) _ hu (by omega) (by omega)).mono ?_
    rintro e wq ⟨rfl, rfl⟩
    rw [← HD.out]
    go_wp2_with fail
    go_loopw [11, 12] (fun v i wr => ∃ j : Nat, j ≤ es.length ∧ i = .int .i64 j ∧ wr.ownsRow W2.heap.size 54 3 v j (((es.take j).map (mv d)).flatMap evc) ∧ Below W2.heap.size W2 wr) (fun _ i _ => es.length - (intOf i).toNat)
    case atStart => exact ⟨0, Nat.zero_le _, rfl, World.ownsRow_nil _ _ _ _, Below.refl _ _⟩
    case round =>
      obtain ⟨j, hj, rfl, hown, hbr⟩ := hrel
      have HLR := Lib.hid (HL.out.later hbr)
      have HBR := Lib.hid hbr
      have hbz := hbr.size
      have z0 : (0 : Int) ≤ (j : Int) := by omega
      clear hbr
      by_cases hjn : j < es.length
      · obtain ⟨ad, hA, x0, x1, x2⟩ := ev_at HLR.out hjn
        first | subst hA | cases hA
        obtain ⟨ev, hev⟩ : ∃ ev, ev = es[j] := ⟨_, rfl⟩
        rw [← hev] at x0 x1 x2
        have ea := HSM.out ev (by rw [hev]; exact List.getElem_mem hjn)
        have eb := HDB.out ev (by rw [hev]; exact List.getElem_mem hjn)
        obtain ⟨ea0, ea1⟩ := ea
        have HTK := Lib.hid (show ((es.take (j + 1)).map (mv d)).flatMap evc = ((es.take j).map (mv d)).flatMap evc ++ evc (mv d ev) by
          rw [List.take_succ_eq_append_getElem hjn, ← hev]; simp)
        have HOWN := Lib.hid hown
        have z1 : (j : Int) < (es.length : Int) := by omega
        clear hev hown
        go_upto_region 14 with fail
        generalize hW4 : wr.alloc (.cells #[.int .i64 ev.k, .int .i64 ev.a, .int .i64 ev.h] 54) = W4
        have h4 : W4.heap[wr.heap.size]? = some (.cells #[.int .i64 ev.k, .int .i64 ev.a, .int .i64 ev.h] 54) := by rw [← hW4]; exact newcell _ _
        have hb4 : Below wr.heap.size wr W4 := by rw [← hW4]; exact below_new _ _
        obtain ⟨q, hq⟩ : ∃ q, q = wr.heap.size := ⟨_, rfl⟩
        rw [← hq] at h4 ⊢
        clear hW4 x0 x1 x2
        obtain ⟨c0, c1, c2, f0, f1, f2, lt⟩ := ev_cells (x := ev) h4
        have H4 := Lib.hid h4
        have HB4 := Lib.hid hb4
        have HQ := Lib.hid hq
        clear h4 hb4 hq
        go_upto_region 15 with fail
        generalize hW5 : W4.setCell ⟨q, 1, none⟩ (.int .i64 (ev.a + d)) = W5
        have h5 : W5.heap[q]? = some (.cells #[.int .i64 ev.k, .int .i64 (ev.a + d), .int .i64 ev.h] 54) := by
          rw [← hW5]; simp [World.setCell, Array.getElem?_modify, H4.out]
        have hother : ∀ k, k ≠ q → W5.heap[k]? = W4.heap[k]? := fun k hk => by rw [← hW5]; exact set_other _ hk
        have hz5 : W5.heap.size = W4.heap.size := by rw [← hW5]; simp [World.setCell]
        have own5 : W5.ownsRow W2.heap.size 54 3 u11 j (((es.take j).map (mv d)).flatMap evc) := own_keep HOWN.out (fun k hk hk2 => by
          rw [hother k (by have := HQ.out; omega)]; exact HB4.out.block k hk2)
        have hb5 : Below W2.heap.size W2 W5 := by
          rw [← hW5]; exact (below_trans HBR.out HB4.out).setCell (by have := HQ.out; simp; omega) _
        have hsz5 : W2.heap.size ≤ W5.heap.size := hb5.size
        have HB5 := Lib.hid hb5
        clear hW5 c0 c1 c2 f0 f1 f2 lt hother hz5 hb5
        obtain ⟨c0, c1, c2, f0, f1, f2, lt⟩ := ev_cells (x := mv d ev) h5
        clear h5
        dsimp only [mv] at c0 c1 c2
        go_wp2_with (at_builtin; refine wpList_append_own _ rfl _ _ 24 rfl W2.heap.size 54 i0 _ 3 24 Try.underlying24 hi hz0 hz1 hz2 rfl (by decide) _ _ _ rfl (own5.alloc _) ⟨W5.heap.size, 0, none⟩ 1 1 (evc (mv d ev)) rfl rfl (news_ev _ (mv d ev)) (evc_one _) (by unfold maxLen; omega) (by omega) (by simp; omega) ?_; intro v' w6 hown6 hgrow6 hnil6; clear hnil6)
        exact ⟨⟨j + 1, by omega, by go_num, by rw [HTK.out]; exact hown6, own_append_below HB5.out hgrow6 own5⟩, by simp [intOf]; omega⟩
      · obtain rfl : j = es.length := by omega
        have z1 : ¬ (es.length : Int) < (es.length : Int) := by omega
        have HMV : Hid (HoldsG evc 3 wr wr.heap.size u11 (es.map (mv d))) := Lib.hid (by
          have h := hown
          rw [List.take_length] at h
          exact HoldsG.of_own (by rw [List.length_map]; exact h))
        clear hj hjn hown hbz
        obtain ⟨W3, hW3⟩ : ∃ W, W = wr := ⟨_, rfl⟩
        subst hW3
        replace HW := Lib.hid (below_trans HW.out HBR.out)
        replace HL := HLR
        clear HBR HLR
        go_wp2_with fail
        refine (lAt_any _ es m _ HL.out).mono ?_
        rw [AtPost2Eq]
        rintro e W4 ⟨rfl, hb⟩
        rw [E1.out]
        dsimp only [lnA]
        replace HW := Lib.hid (below_trans HW.out hb)
        replace HL := Lib.hid (HL.out.later hb)
        replace HMV := Lib.hid (HMV.out.later hb)
        clear hb
        go_wp2_with fail
        obtain ⟨W5, hnew⟩ : ∃ W, W = W4.alloc (.cells #[.int .i64 L.s, .int .i64 L.h, .int .i64 L.e, .int .i64 L.t] 26) := ⟨_, rfl⟩
        rw [← hnew]
        obtain ⟨LAq, LAh⟩ : ∃ q, q = W4.heap.size := ⟨_, rfl⟩
        rw [← LAh]
        have LA0 : Hid (LnAt W5 LAq L) := Lib.hid (by rw [hnew, LAh]; exact LnAt.new W4 L)
        have hb : Below W4.heap.size W4 W5 := by rw [hnew]; exact below_new _ _
        have LAG := Lib.hid (show W0.heap.size ≤ LAq by rw [LAh]; exact HW.out.size)
        clear hnew LAh
        replace HW := Lib.hid (below_trans HW.out hb)
        replace HL := Lib.hid (HL.out.later hb)
        replace HMV := Lib.hid (HMV.out.later hb)
        clear hb
        have LA := LA0
        clear LA0
        obtain ⟨M, hM⟩ : ∃ M, M = mvL d L := ⟨_, rfl⟩
        have HMM := Lib.hid hM
        have E3 := Lib.hid (show atR (es.map (mv d)) (m + d) = (M, 0) by rw [E2.out, hM])
        clear hM
        go_wp2_with fail
        refine (lAt_any _ (es.map (mv d)) (m + d) _ HMV.out).mono ?_
        rw [AtPost2Eq]
        rintro e W6 ⟨rfl, hb⟩
        rw [E3.out]
        dsimp only [lnA]
        replace HW := Lib.hid (below_trans HW.out hb)
        replace HL := Lib.hid (HL.out.later hb)
        replace HMV := Lib.hid (HMV.out.later hb)
        replace LA := Lib.hid (LA.out.later hb)
        clear hb
        go_upto_region 18 with fail
        obtain ⟨W7, hnew⟩ : ∃ W, W = W6.alloc (.cells #[.int .i64 M.s, .int .i64 M.h, .int .i64 M.e, .int .i64 M.t] 26) := ⟨_, rfl⟩
        rw [← hnew]
        obtain ⟨LMq, LMh⟩ : ∃ q, q = W6.heap.size := ⟨_, rfl⟩
        rw [← LMh]
        have LM0 : Hid (LnAt W7 LMq M) := Lib.hid (by rw [hnew, LMh]; exact LnAt.new W6 M)
        have hb : Below W6.heap.size W6 W7 := by rw [hnew]; exact below_new _ _
        have LMG := Lib.hid (show W0.heap.size ≤ LMq by rw [LMh]; exact HW.out.size)
        have LMLAN := Lib.hid (show LAq < LMq by rw [LMh]; exact heap_lt LA.out)
        clear hnew LMh
        replace HW := Lib.hid (below_trans HW.out hb)
        replace HL := Lib.hid (HL.out.later hb)
        replace HMV := Lib.hid (HMV.out.later hb)
        replace LA := Lib.hid (LA.out.later hb)
        clear hb
        have LM := LM0
        clear LM0
        have hLt : 0 ≤ L.t ∧ L.t ≤ 10000000 := by rw [HLD.out]; have h := atL_vld HLIFE.out m; exact ⟨h.2.2.2.2.1, h.2.2.2.2.2.1⟩
        obtain ⟨lt0, lt1⟩ := hLt
        by_cases hLe : 0 < L.e
        · have hM : M = ⟨L.s, L.h, L.e, L.t + d⟩ := by rw [HMM.out]; exact if_pos hLe
          have HM2 := Lib.hid hM
          clear hM
          obtain ⟨a0, a1, a2, a3, g0, g1, g2, g3, lt⟩ := ln_cells LA.out
          go_upto_region 20 with fail
          generalize hV : W7.setCell ⟨LAq, 3, none⟩ (.int .i64 (L.t + d)) = V
          have hA : LnAt V LAq ⟨L.s, L.h, L.e, L.t + d⟩ := by
            rw [← hV]; have h := LA.out; unfold LnAt at h; simp [LnAt, World.setCell, Array.getElem?_modify, h]
          have hne : LMq ≠ LAq := by have := LMLAN.out; omega
          have hMq : LnAt V LMq M := by rw [← hV]; unfold LnAt; rw [set_other _ hne]; exact LM.out
          have hbV : Below W0.heap.size W0 V := by rw [← hV]; exact HW.out.setCell LAG.out _
          have HA := Lib.hid hA
          have HMQ := Lib.hid hMq
          have HBV := Lib.hid hbV
          clear hV hA hne hMq hbV a0 a1 a2 a3 g0 g1 g2 g3 lt
          obtain ⟨a0, a1, a2, a3, a4⟩ := HA.out.cells
          obtain ⟨b0, b1, b2, b3, b4⟩ := HMQ.out.cells
          dsimp only at a0 a1 a2 a3
          have guard := fun W => run_eqGuard_agg (P := Try.prog) (w := W) .eql 26
          have hn : ∀ w, (binOp .eql 26 (.agg #[.int .i64 L.s, .int .i64 L.h, .int .i64 L.e, .int .i64 (L.t + d)]) (.agg #[.int .i64 M.s, .int .i64 M.h, .int .i64 M.e, .int .i64 M.t])).run Try.prog w = .ok (.bool true) w := fun w => by rw [eqlLn]; simp [HM2.out]
        
          go_wp2_with fail
          go_ret
          exact ⟨rfl, HBV.out⟩
        · have hM : M = L := by rw [HMM.out]; exact if_neg hLe
          have HM2 := Lib.hid hM
          clear hM
          obtain ⟨LA_0, LA_1, LA_2, LA_3, LA_4⟩ := LA.out.cells
          obtain ⟨LM_0, LM_1, LM_2, LM_3, LM_4⟩ := LM.out.cells
          have guard := fun W => run_eqGuard_agg (P := Try.prog) (w := W) .eql 26
          have hn : ∀ w, (binOp .eql 26 (.agg #[.int .i64 L.s, .int .i64 L.h, .int .i64 L.e, .int .i64 L.t]) (.agg #[.int .i64 M.s, .int .i64 M.h, .int .i64 M.e, .int .i64 M.t])).run Try.prog w = .ok (.bool true) w := fun w => by rw [eqlLn]; simp [HM2.out]
        
          go_wp2_with fail
          go_ret
          exact ⟨rfl, HW.out⟩
  · have k2 : ¬ (0 : Int) < (es.length : Int) := by omega
    obtain ⟨R, hR⟩ : ∃ R : Int, R = 10000000 - m := ⟨_, rfl⟩
    have r0 : 0 ≤ R ∧ R ≤ 10000000 - m := by omega
    obtain ⟨r0, r1⟩ := r0
    have HR := Lib.hid (show ∀ e ∈ es, e.a + R ≤ 10000000 from fun e he => by
      have : es = [] := List.eq_nil_of_length_eq_zero (by omega)
      rw [this] at he; cases he)
    have HRD := Lib.hid hR
    clear hR
    go_upto_region 8 with fail
    rw [← HRD.out]
    clear k2 s0
    have bq := pickV_bd u (show (0 : Int) < R + 1 by omega)
    obtain ⟨d, hd⟩ : ∃ d, d = pickV u (R + 1) := ⟨_, rfl⟩
    rw [← hd] at bq
    have HD := Lib.hid hd
    obtain ⟨d0, d1⟩ := bq
    have HDB := Lib.hid (show ∀ e ∈ es, e.a + d ≤ 10000000 from fun e he => by have := HR.out e he; omega)
    have E2 := Lib.hid (show atR (es.map (mv d)) (m + d) = (mvL d L, 0) by rw [HLD.out]; exact mv_at d0 HLIFE.out HDB.out m0 (by omega))
    clear hd
    go_wp2_with fail
    refine (pick_any u (R + 1) _ hu (by omega) (by omega)).mono ?_
    rintro e wq ⟨rfl, rfl⟩
    rw [← HD.out]
    go_wp2_with fail
    go_loopw [11, 12] (fun v i wr => ∃ j : Nat, j ≤ es.length ∧ i = .int .i64 j ∧ wr.ownsRow W2.heap.size 54 3 v j (((es.take j).map (mv d)).flatMap evc) ∧ Below W2.heap.size W2 wr) (fun _ i _ => es.length - (intOf i).toNat)
    case atStart => exact ⟨0, Nat.zero_le _, rfl, World.ownsRow_nil _ _ _ _, Below.refl _ _⟩
    case round =>
      obtain ⟨j, hj, rfl, hown, hbr⟩ := hrel
      have HLR := Lib.hid (HL.out.later hbr)
      have HBR := Lib.hid hbr
      have hbz := hbr.size
      have z0 : (0 : Int) ≤ (j : Int) := by omega
      clear hbr
      by_cases hjn : j < es.length
      · exact absurd hjn (by omega)
      · obtain rfl : j = es.length := by omega
        have z1 : ¬ (es.length : Int) < (es.length : Int) := by omega
        have HMV : Hid (HoldsG evc 3 wr wr.heap.size u11 (es.map (mv d))) := Lib.hid (by
          have h := hown
          rw [List.take_length] at h
          exact HoldsG.of_own (by rw [List.length_map]; exact h))
        clear hj hjn hown hbz
        obtain ⟨W3, hW3⟩ : ∃ W, W = wr := ⟨_, rfl⟩
        subst hW3
        replace HW := Lib.hid (below_trans HW.out HBR.out)
        replace HL := HLR
        clear HBR HLR
        go_wp2_with fail
        refine (lAt_any _ es m _ HL.out).mono ?_
        rw [AtPost2Eq]
        rintro e W4 ⟨rfl, hb⟩
        rw [E1.out]
        dsimp only [lnA]
        replace HW := Lib.hid (below_trans HW.out hb)
        replace HL := Lib.hid (HL.out.later hb)
        replace HMV := Lib.hid (HMV.out.later hb)
        clear hb
        go_wp2_with fail
        obtain ⟨W5, hnew⟩ : ∃ W, W = W4.alloc (.cells #[.int .i64 L.s, .int .i64 L.h, .int .i64 L.e, .int .i64 L.t] 26) := ⟨_, rfl⟩
        rw [← hnew]
        obtain ⟨LAq, LAh⟩ : ∃ q, q = W4.heap.size := ⟨_, rfl⟩
        rw [← LAh]
        have LA0 : Hid (LnAt W5 LAq L) := Lib.hid (by rw [hnew, LAh]; exact LnAt.new W4 L)
        have hb : Below W4.heap.size W4 W5 := by rw [hnew]; exact below_new _ _
        have LAG := Lib.hid (show W0.heap.size ≤ LAq by rw [LAh]; exact HW.out.size)
        clear hnew LAh
        replace HW := Lib.hid (below_trans HW.out hb)
        replace HL := Lib.hid (HL.out.later hb)
        replace HMV := Lib.hid (HMV.out.later hb)
        clear hb
        have LA := LA0
        clear LA0
        obtain ⟨M, hM⟩ : ∃ M, M = mvL d L := ⟨_, rfl⟩
        have HMM := Lib.hid hM
        have E3 := Lib.hid (show atR (es.map (mv d)) (m + d) = (M, 0) by rw [E2.out, hM])
        clear hM
        go_wp2_with fail
        refine (lAt_any _ (es.map (mv d)) (m + d) _ HMV.out).mono ?_
        rw [AtPost2Eq]
        rintro e W6 ⟨rfl, hb⟩
        rw [E3.out]
        dsimp only [lnA]
        replace HW := Lib.hid (below_trans HW.out hb)
        replace HL := Lib.hid (HL.out.later hb)
        replace HMV := Lib.hid (HMV.out.later hb)
        replace LA := Lib.hid (LA.out.later hb)
        clear hb
        go_upto_region 18 with fail
        obtain ⟨W7, hnew⟩ : ∃ W, W = W6.alloc (.cells #[.int .i64 M.s, .int .i64 M.h, .int .i64 M.e, .int .i64 M.t] 26) := ⟨_, rfl⟩
        rw [← hnew]
        obtain ⟨LMq, LMh⟩ : ∃ q, q = W6.heap.size := ⟨_, rfl⟩
        rw [← LMh]
        have LM0 : Hid (LnAt W7 LMq M) := Lib.hid (by rw [hnew, LMh]; exact LnAt.new W6 M)
        have hb : Below W6.heap.size W6 W7 := by rw [hnew]; exact below_new _ _
        have LMG := Lib.hid (show W0.heap.size ≤ LMq by rw [LMh]; exact HW.out.size)
        have LMLAN := Lib.hid (show LAq < LMq by rw [LMh]; exact heap_lt LA.out)
        clear hnew LMh
        replace HW := Lib.hid (below_trans HW.out hb)
        replace HL := Lib.hid (HL.out.later hb)
        replace HMV := Lib.hid (HMV.out.later hb)
        replace LA := Lib.hid (LA.out.later hb)
        clear hb
        have LM := LM0
        clear LM0
        have hLt : 0 ≤ L.t ∧ L.t ≤ 10000000 := by rw [HLD.out]; have h := atL_vld HLIFE.out m; exact ⟨h.2.2.2.2.1, h.2.2.2.2.2.1⟩
        obtain ⟨lt0, lt1⟩ := hLt
        by_cases hLe : 0 < L.e
        · have hM : M = ⟨L.s, L.h, L.e, L.t + d⟩ := by rw [HMM.out]; exact if_pos hLe
          have HM2 := Lib.hid hM
          clear hM
          obtain ⟨a0, a1, a2, a3, g0, g1, g2, g3, lt⟩ := ln_cells LA.out
          go_upto_region 20 with fail
          generalize hV : W7.setCell ⟨LAq, 3, none⟩ (.int .i64 (L.t + d)) = V
          have hA : LnAt V LAq ⟨L.s, L.h, L.e, L.t + d⟩ := by
            rw [← hV]; have h := LA.out; unfold LnAt at h; simp [LnAt, World.setCell, Array.getElem?_modify, h]
          have hne : LMq ≠ LAq := by have := LMLAN.out; omega
          have hMq : LnAt V LMq M := by rw [← hV]; unfold LnAt; rw [set_other _ hne]; exact LM.out
          have hbV : Below W0.heap.size W0 V := by rw [← hV]; exact HW.out.setCell LAG.out _
          have HA := Lib.hid hA
          have HMQ := Lib.hid hMq
          have HBV := Lib.hid hbV
          clear hV hA hne hMq hbV a0 a1 a2 a3 g0 g1 g2 g3 lt
          obtain ⟨a0, a1, a2, a3, a4⟩ := HA.out.cells
          obtain ⟨b0, b1, b2, b3, b4⟩ := HMQ.out.cells
          dsimp only at a0 a1 a2 a3
          have guard := fun W => run_eqGuard_agg (P := Try.prog) (w := W) .eql 26
          have hn : ∀ w, (binOp .eql 26 (.agg #[.int .i64 L.s, .int .i64 L.h, .int .i64 L.e, .int .i64 (L.t + d)]) (.agg #[.int .i64 M.s, .int .i64 M.h, .int .i64 M.e, .int .i64 M.t])).run Try.prog w = .ok (.bool true) w := fun w => by rw [eqlLn]; simp [HM2.out]
        
          go_wp2_with fail
          go_ret
          exact ⟨rfl, HBV.out⟩
        · have hM : M = L := by rw [HMM.out]; exact if_neg hLe
          have HM2 := Lib.hid hM
          clear hM
          obtain ⟨LA_0, LA_1, LA_2, LA_3, LA_4⟩ := LA.out.cells
          obtain ⟨LM_0, LM_1, LM_2, LM_3, LM_4⟩ := LM.out.cells
          have guard := fun W => run_eqGuard_agg (P := Try.prog) (w := W) .eql 26
          have hn : ∀ w, (binOp .eql 26 (.agg #[.int .i64 L.s, .int .i64 L.h, .int .i64 L.e, .int .i64 L.t]) (.agg #[.int .i64 M.s, .int .i64 M.h, .int .i64 M.e, .int .i64 M.t])).run Try.prog w = .ok (.bool true) w := fun w => by rw [eqlLn]; simp [HM2.out]
        
          go_wp2_with fail
          go_ret
          exact ⟨rfl, HW.out⟩
end Go.Proofs.Yteilkigdlkeiaaa
