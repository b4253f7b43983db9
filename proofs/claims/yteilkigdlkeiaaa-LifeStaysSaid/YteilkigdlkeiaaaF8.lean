/-
  The contract of the law LifeStays: it returns true.
-/
import Derived.Test.YteilkigdlkeiaaaC2
import Derived.Deep.RegionHeld3
import Derived.Deep.DrawnRows
namespace Go.Proofs.Yteilkigdlkeiaaa
open Go Go.RowKit Go.Dial Go.Dial.Lif
attribute [local go_sem] Oper.semAt_some
attribute [local go_sem ↓] Go.wp_at_zero Go.wp_at_succ

theorem cnt_take {S : List St} {j : Nat} (m : Int) (hj : j < S.length) : (cntS (S.take (j + 1)) m : Int) = cntS (S.take j) m + if S[j].f ≤ m ∧ m < S[j].t then 1 else 0 := by
  unfold cntS
  rw [List.take_succ_eq_append_getElem hj, List.filter_append, List.length_append]
  by_cases h : S[j].f ≤ m ∧ m < S[j].t
  · have : inS S[j] m = true := by simp [inS, h]
    simp [h, this]
  · have : inS S[j] m = false := by unfold inS; exact decide_eq_false h
    simp [h, this]
set_option maxRecDepth 100000 in
set_option maxHeartbeats 8000000 in
theorem law8_any (Ax : Option Addr) (cx : Nat) (xs : List T3) (t : Int) (w : World) (hlen : xs.length ≤ maxLen) (hS : Span w w.heap.size 3 Ax xs.length (xs.flatMap tcells))
    (hb : (∀ x ∈ xs, Tri x) ∧ I64 t) :
    Calls Try.prog 8 #[.slice Ax xs.length cx, .int .i64 t] w fun e w' => e = .returned (.bool true) ∧ Below w.heap.size w w' := by
  obtain ⟨ha, ht⟩ := hb
  obtain ⟨hAll, hL16⟩ := made_life xs
  obtain ⟨es, hes⟩ : ∃ es, es = madeV xs := ⟨_, rfl⟩
  rw [← hes] at hAll hL16
  have HES := Lib.hid hes
  have HALL := Lib.hid hAll
  have HSM := Lib.hid (small_all hAll)
  have HLIFE := Lib.hid (show Life es from ⟨hAll, by omega⟩)
  clear hes hAll
  have bt := timeV_bd es t
  obtain ⟨m, hm⟩ : ∃ m, m = timeV es t := ⟨_, rfl⟩
  rw [← hm] at bt
  have HM := Lib.hid hm
  obtain ⟨m0, m1⟩ := bt
  obtain ⟨L, hLd⟩ : ∃ L, L = atL es m := ⟨_, rfl⟩
  have E2 := Lib.hid (show atR es m = (L, 0) by rw [hLd]; exact atR_ok HLIFE.out m0 m1)
  have E1 := Lib.hid (staysR_ok HLIFE.out)
  obtain ⟨S, hS0⟩ : ∃ S, S = staysL es := ⟨_, rfl⟩
  have hSl : S.length ≤ 16 := by rw [hS0]; exact Nat.le_trans (staysL_len es) hL16
  have HCNT := Lib.hid (show cntS S m = if Used L then 1 else 0 by rw [hS0, hLd]; exact cnt_used HALL.out m0 m1)
  have HEACH := Lib.hid (show ∀ j (h : j < S.length), 0 ≤ S[j].f ∧ S[j].f < S[j].t ∧ S[j].t ≤ 10000001 ∧ (S[j].f ≤ m → m < S[j].t → Used L ∧ L.e = S[j].e ∧ L.h = S[j].h) from fun j h => by
    subst hS0
    obtain ⟨a, b, c, d⟩ := (staysL_inv HALL.out).each _ (List.getElem_mem h)
    exact ⟨a, b, c, fun h1 h2 => by rw [hLd]; exact d m h1 h2⟩)
  have HADJ := Lib.hid (show ∀ j (h0 : 0 < j) (h : j < S.length), (S[j - 1]'(by omega)).t ≤ S[j].f ∧ ((S[j - 1]'(by omega)).t = S[j].f → (S[j - 1]'(by omega)).e ≠ S[j].e) from fun j h0 h => by
    subst hS0
    have := adj_at HALL.out h0 h
    exact ⟨this.1, this.2.1⟩)
  rw [← hS0] at E1
  clear hm hS0 hLd
  have HSX := Lib.hid hS
  have HW : Hid (Below w.heap.size w w) := Lib.hid (Below.refl _ _)
  obtain ⟨W0, hW0⟩ : ∃ W0, W0 = w := ⟨_, rfl⟩
  rw [← hW0] at HSX HW
  subst hW0
  clear hS
  go_enter Try.func8, Try.ntmps8
  go_wp2_with fail
  refine (sane_any _).mono ?_
  rintro e W1 ⟨rfl, hb⟩
  replace HSX := Lib.hid ((HSX.out.below hb (Nat.le_refl _)).mono hb.size)
  replace HW := Lib.hid (below_trans HW.out hb)
  clear hb
  go_wp2_with fail
  refine (rmade_any Ax cx xs _ hlen HSX.out ha).mono ?_
  rintro e W2 ⟨⟨vl, rfl, h1⟩, hb⟩
  clear HSX
  replace HW := Lib.hid (below_trans HW.out hb)
  clear hb
  rw [← HES.out] at h1
  have HL := Lib.hid h1
  clear h1
  obtain ⟨A, c, rfl⟩ := holds_form HL.out (n := es.length) rfl
  obtain ⟨_, hc1, hc2⟩ := holds_cap HL.out
  go_wp2_with fail
  refine (rtime_any _ es t _ HL.out ht HSM.out (by omega)).mono ?_
  rintro e wq ⟨rfl, rfl⟩
  rw [← HM.out]
  go_wp2_with fail
  refine (lstays_any _ es _ HL.out).mono ?_
  unfold StaysPost
  rintro e W3 ⟨vs, rfl, h1, hb⟩
  rw [E1.out] at h1 ⊢
  dsimp only at h1 ⊢
  replace HW := Lib.hid (below_trans HW.out hb)
  replace HL := Lib.hid (HL.out.later hb)
  clear hb
  have HS := Lib.hid h1
  clear h1
  obtain ⟨AS, cS, rfl⟩ := holds_form HS.out (n := S.length) rfl
  obtain ⟨_, hs1, hs2⟩ := holds_cap HS.out
  go_wp2_with fail
  refine (lAt_any _ es m _ HL.out).mono ?_
  rw [AtPost2Eq]
  rintro e W4 ⟨rfl, hb⟩
  rw [E2.out]
  dsimp only [lnA]
  replace HW := Lib.hid (below_trans HW.out hb)
  replace HL := Lib.hid (HL.out.later hb)
  replace HS := Lib.hid (HS.out.later hb)
  clear hb
  go_upto_region 9 with fail
  obtain ⟨W5, hnew⟩ : ∃ W, W = W4.alloc (.cells #[.int .i64 L.s, .int .i64 L.h, .int .i64 L.e, .int .i64 L.t] 26) := ⟨_, rfl⟩
  rw [← hnew]
  obtain ⟨LAq, LAh⟩ : ∃ q, q = W4.heap.size := ⟨_, rfl⟩
  rw [← LAh]
  have LA0 : Hid (LnAt W5 LAq L) := Lib.hid (by rw [hnew, LAh]; exact LnAt.new W4 L)
  have hb : Below W4.heap.size W4 W5 := by rw [hnew]; exact below_new _ _
  have LAG := Lib.hid (show W0.heap.size ≤ LAq by rw [LAh]; exact HW.out.size)
  clear hnew LAh
  replace HW := Lib.hid (below_trans HW.out hb)
  replace HL := Lib.hid (HL.out.later hb)
  replace HS := Lib.hid (HS.out.later hb)
  clear hb
  have LA := LA0
  clear LA0
  go_wp2_with fail
  go_loopw [11, 12] (fun v i wr => ∃ j : Nat, j ≤ S.length ∧ i = .int .i64 j ∧ v = .int .i64 (cntS (S.take j) m : Int) ∧ Below W5.heap.size W5 wr) (fun _ i _ => S.length - (intOf i).toNat)
  case atStart => exact ⟨0, Nat.zero_le _, rfl, rfl, Below.refl _ _⟩
  case round =>
    obtain ⟨j, hj, rfl, rfl, hbr⟩ := hrel
    have HBR := Lib.hid hbr
    have HSR := Lib.hid (HS.out.later hbr)
    have LAR := Lib.hid (LA.out.later hbr)
    have z0 : (0 : Int) ≤ (j : Int) := by omega
    clear hbr
    by_cases hjn : j < S.length
    · obtain ⟨ad, rfl, x0, x1, x2, x3⟩ := st_at HSR.out hjn
      obtain ⟨b0, b1, b2, b3⟩ := HEACH.out j hjn
      have HC1 := Lib.hid (cnt_take m hjn)
      have hcl : (cntS (S.take j) m : Int) ≤ 16 := by
        have : cntS (S.take j) m ≤ (S.take j).length := List.length_filter_le _ _
        simp at this; omega
      obtain ⟨C, hC⟩ : ∃ C, C = cntS (S.take j) m := ⟨_, rfl⟩
      rw [← hC] at hcl HC1 ⊢
      obtain ⟨y, hy⟩ : ∃ y, y = S[j] := ⟨_, rfl⟩
      rw [← hy] at x0 x1 x2 x3 b0 b1 b2 b3 HC1
      have HY := Lib.hid hy
      have B3 := Lib.hid b3
      have z1 : (j : Int) < (S.length : Int) := by omega
      clear hC hy b3
      go_upto_region 14 with fail
      generalize hW4 : wr.alloc (.cells #[.int .i64 y.f, .int .i64 y.t] 60) = W4
      have h4 : W4.heap[wr.heap.size]? = some (.cells #[.int .i64 y.f, .int .i64 y.t] 60) := by rw [← hW4]; exact newcell _ _
      have hb4 : Below wr.heap.size wr W4 := by rw [← hW4]; exact below_new _ _
      obtain ⟨q, hq⟩ : ∃ q, q = wr.heap.size := ⟨_, rfl⟩
      rw [← hq] at h4 ⊢
      have H4 := Lib.hid h4
      have HB4 := Lib.hid (below_trans HBR.out hb4)
      have HS4 := Lib.hid (HSR.out.later hb4)
      have LA4 := Lib.hid (LAR.out.later hb4)
      clear hW4 hq hb4 x0 x1 x2 x3
      have p0 := gcell (cs := [.int .i64 y.f, .int .i64 y.t]) h4 (i := 0) rfl
      have p1 := gcell (cs := [.int .i64 y.f, .int .i64 y.t]) h4 (i := 1) rfl
      clear h4
      have t1 : decide (y.f < 0) = false := by simp; omega
      have t2 : decide (y.t ≤ y.f) = false := by simp; omega
      have t3 : decide (10000001 < y.t) = false := by simp; omega
      go_cut [106] (fun v wx => v = .bool false ∧ Below W4.heap.size W4 wx)
      case first =>
        by_cases hj0 : 0 < j
        · obtain ⟨_, hA1, x0, x1, x2, x3⟩ := st_at HS4.out hjn
          cases hA1
          obtain ⟨_, hA2, y0, y1, y2, y3⟩ := st_at HS4.out (j := j - 1) (by omega)
          cases hA2
          obtain ⟨a1, a2⟩ := HADJ.out j hj0 hjn
          rw [← HY.out] at x0 x1 x2 x3 a1 a2
          obtain ⟨z, hz⟩ : ∃ z, z = (S[j - 1]'(by omega)) := ⟨_, rfl⟩
          rw [← hz] at y0 y1 y2 y3 a1 a2
          have k1 : ((j : Int) - 1).toNat = j - 1 := by omega
          have k2 : decide ((0 : Int) < (j : Int)) = true := by simp; omega
          have k2' : decide (0 < j) = true := by simp; omega
          have k3 : (0 : Int) ≤ (j : Int) - 1 := by omega
          have k4 : (j : Int) - 1 < (S.length : Int) := by omega
          have t4 : decide (y.f < z.t) = false := by simp; omega
          have t6 : y.f = z.t → (y.e == z.e) = false := fun h => by rw [beq_eq_false_iff_ne]; exact fun h2 => a2 h.symm h2.symm
          clear hz a1 a2
          by_cases he : y.f = z.t
          · have t7 := t6 he
            have t5 : (y.f == z.t) = true := by rw [beq_iff_eq]; exact he
            clear t6 he
            try dsimp only [List.append]
            go_quiet (fail)
            go_wp2_with fail
            go_meet
            exact ⟨rfl, below_drewN (Below.refl _ _) _⟩
          · have t5 : (y.f == z.t) = false := by rw [beq_eq_false_iff_ne]; exact he
            clear t6 he
            try dsimp only [List.append]
            go_quiet (fail)
            go_wp2_with fail
            go_meet
            exact ⟨rfl, below_drewN (Below.refl _ _) _⟩
        · obtain rfl : j = 0 := by omega
          try dsimp only [List.append]
          go_quiet (fail)
          go_wp2_with fail
          go_meet
          exact ⟨rfl, below_drewN (Below.refl _ _) _⟩
      obtain ⟨rfl, hbc⟩ := hcut
      have H5 := Lib.hid (keepcell H4.out hbc)
      have HB5 := Lib.hid (below_trans HB4.out hbc)
      have HS5 := Lib.hid (HS4.out.later hbc)
      have LA5 := Lib.hid (LA4.out.later hbc)
      clear p0 p1 hbc t1 t2 t3
      have p0 := gcell (cs := [.int .i64 y.f, .int .i64 y.t]) H5.out (i := 0) rfl
      have p1 := gcell (cs := [.int .i64 y.f, .int .i64 y.t]) H5.out (i := 1) rfl
      by_cases hin : y.f ≤ m ∧ m < y.t
      · have HC2 := Lib.hid (show (cntS (S.take (j + 1)) m : Int) = C + 1 by rw [HC1.out, if_pos hin])
        obtain ⟨i1, i2⟩ := hin
        obtain ⟨_, e1, e2⟩ := B3.out i1 i2
        obtain ⟨_, hA1, x0, x1, x2, x3⟩ := st_at HS5.out hjn
        cases hA1
        rw [← HY.out] at x0 x1 x2 x3
        rw [← e2] at x0
        rw [← e1] at x1
        obtain ⟨l0, l1, l2, l3, l4⟩ := LA5.out.cells
        clear e1 e2
        go_upto_region 18 with fail
        go_quiet (fail)
        go_wp2_with fail
        exact ⟨⟨j + 1, by omega, by go_num, by rw [HC2.out], below_drewN HB5.out _⟩, by simp [intOf]; omega⟩
      · have HC2 := Lib.hid (show (cntS (S.take (j + 1)) m : Int) = C by rw [HC1.out, if_neg hin]; simp)
        by_cases i1 : y.f ≤ m
        · have i2 : ¬ m < y.t := fun h => hin ⟨i1, h⟩
          clear hin
          go_wp2_with fail
          exact ⟨⟨j + 1, by omega, by go_num, by rw [HC2.out], HB5.out⟩, by simp [intOf]; omega⟩
        · clear hin
          go_wp2_with fail
          exact ⟨⟨j + 1, by omega, by go_num, by rw [HC2.out], HB5.out⟩, by simp [intOf]; omega⟩
    · obtain rfl : j = S.length := by omega
      have HCF := Lib.hid (show (cntS (S.take S.length) m : Int) = if Used L then 1 else 0 by rw [List.take_length, HCNT.out]; split <;> rfl)
      rw [HCF.out]
      clear hj hjn
      have z1 : ¬ (S.length : Int) < (S.length : Int) := by omega
      obtain ⟨l0, l1, l2, l3, l4⟩ := LAR.out.cells
      by_cases hu : Used L
      · rw [if_pos hu]
        rcases hu with hu | hu
        · rw [hu] at l0
          go_wp2_with fail
          go_ret
          exact ⟨rfl, below_trans HW.out HBR.out⟩
        · rw [hu] at l0
          go_wp2_with fail
          go_ret
          exact ⟨rfl, below_trans HW.out HBR.out⟩
      · rw [if_neg hu]
        have u1 : (L.s == 1) = false := by rw [beq_eq_false_iff_ne]; exact fun h => hu (.inl h)
        have u2 : (L.s == 2) = false := by rw [beq_eq_false_iff_ne]; exact fun h => hu (.inr h)
        clear hu
        go_wp2_with fail
        go_ret
        exact ⟨rfl, below_trans HW.out HBR.out⟩
end Go.Proofs.Yteilkigdlkeiaaa
