/-
  The contract of the law LifeEpochs: it returns true.
-/
import Derived.Test.YteilkigdlkeiaaaC2
import Derived.Deep.RegionHeld3
import Derived.Deep.DrawnRows
namespace Go.Proofs.Yteilkigdlkeiaaa
open Go Go.RowKit Go.Dial Go.Dial.Lif
attribute [local go_sem] Oper.semAt_some
attribute [local go_sem ↓] Go.wp_at_zero Go.wp_at_succ

set_option maxRecDepth 100000 in
set_option maxHeartbeats 8000000 in
theorem law7_any (Ax : Option Addr) (cx : Nat) (xs : List T3) (w : World) (hlen : xs.length ≤ maxLen) (hS : Span w w.heap.size 3 Ax xs.length (xs.flatMap tcells))
    (hb : (∀ x ∈ xs, Tri x)) :
    Calls Try.prog 7 #[.slice Ax xs.length cx] w fun e w' => e = .returned (.bool true) ∧ Below w.heap.size w w' := by
  have ha := hb
  clear hb
  obtain ⟨hAll, hL16⟩ := made_life xs
  obtain ⟨es, hes⟩ : ∃ es, es = madeV xs := ⟨_, rfl⟩
  rw [← hes] at hAll hL16
  have HES := Lib.hid hes
  have HALL := Lib.hid hAll
  have HSM := Lib.hid (small_all hAll)
  have HLIFE := Lib.hid (show Life es from ⟨hAll, by omega⟩)
  clear hes hAll
  have E1 := Lib.hid (staysR_ok HLIFE.out)
  have E2 := Lib.hid (runR_life HLIFE.out)
  obtain ⟨S, hS0⟩ : ∃ S, S = staysL es := ⟨_, rfl⟩
  have hSl : S.length ≤ 16 := by rw [hS0]; exact Nat.le_trans (staysL_len es) hL16
  rw [← hS0] at E1
  have HSD := Lib.hid hS0
  obtain ⟨L, hLd⟩ : ∃ L, L = fin first es := ⟨_, rfl⟩
  rw [← hLd] at E2
  have HMN : Hid (L.e = many es) := Lib.hid (by rw [hLd, fin_many HALL.out]; simp [first])
  have HADJ := Lib.hid (show ∀ j (h0 : 0 < j) (h : j < S.length), (S[j - 1]'(by omega)).e ≤ S[j].e ∧ ((S[j - 1]'(by omega)).e = S[j].e → (S[j - 1]'(by omega)).h = S[j].h) from fun j h0 h => by
    subst hS0
    have := adj_at HALL.out h0 h
    exact ⟨this.2.2.1, this.2.2.2.1⟩)
  clear hS0 hLd
  have HSX := Lib.hid hS
  have HW : Hid (Below w.heap.size w w) := Lib.hid (Below.refl _ _)
  obtain ⟨W0, hW0⟩ : ∃ W0, W0 = w := ⟨_, rfl⟩
  rw [← hW0] at HSX HW
  subst hW0
  clear hS
  go_enter Try.func7, Try.ntmps7
  go_wp2_with fail
  refine (sane_any _).mono ?_
  rintro e W1 ⟨rfl, hb⟩
  replace HSX := Lib.hid ((HSX.out.below hb (Nat.le_refl _)).mono hb.size)
  replace HW := Lib.hid (below_trans HW.out hb)
  clear hb
  go_wp2_with fail
  refine (rmade_any Ax cx xs _ hlen HSX.out ha).mono ?_
  rintro e W2 ⟨⟨vl, rfl, h1⟩, hb⟩
  clear HSX
  replace HW := Lib.hid (below_trans HW.out hb)
  clear hb
  rw [← HES.out] at h1
  have HL := Lib.hid h1
  clear h1
  obtain ⟨A, c, rfl⟩ := holds_form HL.out (n := es.length) rfl
  obtain ⟨_, hc1, hc2⟩ := holds_cap HL.out
  go_wp2_with fail
  refine (lstays_any _ es _ HL.out).mono ?_
  unfold StaysPost
  rintro e W3 ⟨vs, rfl, h1, hb⟩
  rw [E1.out] at h1 ⊢
  dsimp only at h1 ⊢
  replace HW := Lib.hid (below_trans HW.out hb)
  replace HL := Lib.hid (HL.out.later hb)
  clear hb
  have HS := Lib.hid h1
  clear h1
  obtain ⟨AS, cS, rfl⟩ := holds_form HS.out (n := S.length) rfl
  obtain ⟨_, hs1, hs2⟩ := holds_cap HS.out
  go_wp2_with fail
  refine (lrun_any _ es _ HL.out).mono ?_
  rw [RunPostEq]
  rintro e W4 ⟨rfl, hb⟩
  rw [E2.out]
  dsimp only [lnA]
  replace HW := Lib.hid (below_trans HW.out hb)
  replace HL := Lib.hid (HL.out.later hb)
  replace HS := Lib.hid (HS.out.later hb)
  clear hb
  go_upto_region 6 with fail
  obtain ⟨W5, hnew⟩ : ∃ W, W = W4.alloc (.cells #[.int .i64 L.s, .int .i64 L.h, .int .i64 L.e, .int .i64 L.t] 26) := ⟨_, rfl⟩
  rw [← hnew]
  obtain ⟨LAq, LAh⟩ : ∃ q, q = W4.heap.size := ⟨_, rfl⟩
  rw [← LAh]
  have LA0 : Hid (LnAt W5 LAq L) := Lib.hid (by rw [hnew, LAh]; exact LnAt.new W4 L)
  have hb : Below W4.heap.size W4 W5 := by rw [hnew]; exact below_new _ _
  clear hnew LAh
  replace HW := Lib.hid (below_trans HW.out hb)
  replace HL := Lib.hid (HL.out.later hb)
  replace HS := Lib.hid (HS.out.later hb)
  clear hb
  have LA := LA0
  clear LA0
  go_wp2_with fail
  go_loopw [9, 10] (fun v i wr => ∃ j : Nat, j ≤ es.length ∧ i = .int .i64 j ∧ v = .int .i64 (many (es.take j) : Int) ∧ Below W5.heap.size W5 wr) (fun _ i _ => es.length - (intOf i).toNat)
  case atStart => exact ⟨0, Nat.zero_le _, rfl, rfl, Below.refl _ _⟩
  case round =>
    obtain ⟨j, hj, rfl, rfl, hbr⟩ := hrel
    have HLR := Lib.hid (HL.out.later hbr)
    have HBR := Lib.hid hbr
    have z0 : (0 : Int) ≤ (j : Int) := by omega
    clear hbr
    by_cases hjn : j < es.length
    · obtain ⟨ad, rfl, x0, _, _⟩ := ev_at HLR.out hjn
      have HMJ := Lib.hid (many_take hjn)
      obtain ⟨b, hb⟩ : ∃ b, b = es[j].k := ⟨_, rfl⟩
      rw [← hb] at x0 HMJ
      have hml : (many (es.take j) : Int) ≤ 16 := by
        have : many (es.take j) ≤ (es.take j).length := List.length_filter_le _ _
        simp at this; omega
      obtain ⟨mj, hmj⟩ : ∃ mj, mj = many (es.take j) := ⟨_, rfl⟩
      rw [← hmj] at hml HMJ ⊢
      clear hb hmj
      have z1 : (j : Int) < (es.length : Int) := by omega
      by_cases b1 : b = 1
      · subst b1
        go_wp2_with fail
        exact ⟨⟨j + 1, by omega, by go_num, by rw [HMJ.out]; rfl, HBR.out⟩, by simp [intOf]; omega⟩
      · have t1 : (b == 1) = false := by rw [beq_eq_false_iff_ne]; exact b1
        by_cases b2 : b = 2
        · subst b2
          go_wp2_with fail
          exact ⟨⟨j + 1, by omega, by go_num, by rw [HMJ.out]; rfl, HBR.out⟩, by simp [intOf]; omega⟩
        · have t2 : (b == 2) = false := by rw [beq_eq_false_iff_ne]; exact b2
          have HB12 := Lib.hid (show ¬ (b = 1 ∨ b = 2) by omega)
          clear b1 b2
          go_wp2_with fail
          exact ⟨⟨j + 1, by omega, by go_num, by rw [HMJ.out, if_neg HB12.out]; simp, HBR.out⟩, by simp [intOf]; omega⟩
    · obtain rfl : j = es.length := by omega
      have HMF := Lib.hid (show (many (es.take es.length) : Int) = L.e by rw [List.take_length, HMN.out])
      rw [HMF.out]
      clear hj hjn
      have z1 : ¬ (es.length : Int) < (es.length : Int) := by omega
      obtain ⟨W6, hW3⟩ : ∃ W, W = wr := ⟨_, rfl⟩
      subst hW3
      replace HW := Lib.hid (below_trans HW.out HBR.out)
      replace HS := Lib.hid (HS.out.later HBR.out)
      replace LA := Lib.hid (LA.out.later HBR.out)
      replace HL := HLR
      clear HBR HLR
      go_wp2_with fail
      go_loopw [11] (fun i wz => ∃ j : Nat, 1 ≤ j ∧ j ≤ S.length + 1 ∧ i = .int .i64 j ∧ Below W6.heap.size W6 wz) (fun i _ => S.length + 1 - (intOf i).toNat)
      case atStart => exact ⟨1, Nat.le_refl _, by omega, rfl, Below.refl _ _⟩
      case round =>
        obtain ⟨j, hj1, hj2, rfl, hbr⟩ := hrel
        have HBR := Lib.hid hbr
        have HSR := Lib.hid (HS.out.later hbr)
        clear hbr
        by_cases hjn : j < S.length
        · obtain ⟨ad, rfl, x0, x1, _, _⟩ := st_at HSR.out hjn
          obtain ⟨ad2, e2, y0, y1, _, _⟩ := st_at HSR.out (j := j - 1) (by omega)
          cases e2
          obtain ⟨a1, a2⟩ := HADJ.out j (by omega) hjn
          obtain ⟨xe, hxe⟩ : ∃ b, b = S[j].e := ⟨_, rfl⟩
          obtain ⟨xh, hxh⟩ : ∃ b, b = S[j].h := ⟨_, rfl⟩
          obtain ⟨ye, hye⟩ : ∃ b, b = (S[j - 1]'(by omega)).e := ⟨_, rfl⟩
          obtain ⟨yh, hyh⟩ : ∃ b, b = (S[j - 1]'(by omega)).h := ⟨_, rfl⟩
          rw [← hxe] at x1 a1 a2
          rw [← hxh] at x0 a2
          rw [← hye] at y1 a1 a2
          rw [← hyh] at y0 a2
          clear hxe hxh hye hyh
          have z1 : (j : Int) < (S.length : Int) := by omega
          have k1 : ((j : Int) - 1).toNat = j - 1 := by omega
          have k3 : (0 : Int) ≤ (j : Int) - 1 := by omega
          have k4 : (j : Int) - 1 < (S.length : Int) := by omega
          have z0 : (0 : Int) ≤ (j : Int) := by omega
          have t1 : decide (xe < ye) = false := by simp; omega
          by_cases he : xe = ye
          · subst he
            obtain rfl := a2 rfl
            clear a1 a2
            go_upto_region 15 with fail
            try dsimp only [List.append]
            go_quiet (fail)
            go_wp2_with fail
            exact ⟨⟨j + 1, by omega, by omega, by go_num, below_drewN HBR.out _⟩, by simp [intOf]; omega⟩
          · have t2 : (xe == ye) = false := by rw [beq_eq_false_iff_ne]; exact he
            clear a1 a2 he
            go_upto_region 15 with fail
            try dsimp only [List.append]
            go_quiet (fail)
            go_wp2_with fail
            exact ⟨⟨j + 1, by omega, by omega, by go_num, below_drewN HBR.out _⟩, by simp [intOf]; omega⟩
        · have z1 : ¬ (j : Int) < (S.length : Int) := by omega
          have LAZ := Lib.hid (LA.out.later HBR.out)
          obtain ⟨l0, l1, l2, l3, l4⟩ := LAZ.out.cells
          go_wp2_with fail
          go_ret
          exact ⟨rfl, below_trans HW.out HBR.out⟩
end Go.Proofs.Yteilkigdlkeiaaa
