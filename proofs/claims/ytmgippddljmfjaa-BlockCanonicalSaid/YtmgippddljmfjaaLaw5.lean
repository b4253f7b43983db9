/-
  The contract of the law BlockCanonical: it returns true.
-/
import Derived.Test.YtmgippddljmfjaaWalk27
namespace Go.Proofs.Ytmgippddljmfjaa
open Go Go.RowKit Go.Dial Go.Dial.Blk

theorem asc_adj {l : List B3} {e k : Int} (h : Asc e k l) {i : Nat} (hi : i + 1 < l.length) : (l[i]'(by omega)).t ≤ l[i + 1].f ∧ (l[i + 1].f = (l[i]'(by omega)).t → l[i + 1].c ≠ (l[i]'(by omega)).c) := by
  induction l generalizing e k i with
  | nil => simp at hi
  | cons b l ih =>
    obtain ⟨h1, h2, h3, h4, h5, h6, h7, h8⟩ := h
    cases i with
    | zero =>
      cases l with
      | nil => simp at hi
      | cons y l =>
        obtain ⟨g1, g2, g3, g4, g5, g6, g7, g8⟩ := h8
        exact ⟨g6, g7⟩
    | succ i => simpa using ih h8 (i := i) (by simpa using hi)

theorem asc_car {l : List B3} {e k : Int} (h : Asc e k l) {x : B3} (hx : x ∈ l) : 0 ≤ x.c ∧ x.c ≤ 7 := by
  induction l generalizing e k with
  | nil => simp at hx
  | cons b l ih =>
    obtain ⟨g1, g2, g3, g4, g5, g6, g7, g8⟩ := h
    rcases List.mem_cons.1 hx with rfl | hx
    · exact ⟨g4, g5⟩
    · exact ih g8 hx
theorem hold_mem {l : List B3} {e k : Int} (h : Asc e k l) {x : B3} (hx : x ∈ l) (n : Int) (h1 : x.f ≤ n) (h2 : n < x.t) : hold l n = x.c := by
  induction l generalizing e k with
  | nil => simp at hx
  | cons b l ih =>
    obtain ⟨g1, g2, g3, g4, g5, g6, g7, g8⟩ := h
    rcases List.mem_cons.1 hx with rfl | hx
    · exact hold_in l ⟨h1, h2⟩
    · have h3 := ih g8 hx
      by_cases hb : b.f ≤ n ∧ n < b.t
      · have h4 := hold_lt g8 hb.2
        have h5 : 0 ≤ x.c := (asc_car g8 hx).1
        omega
      · rw [hold_out l hb]; exact h3

set_option maxRecDepth 100000 in
set_option maxHeartbeats 8000000 in
theorem law5_any (Ax Ay : Option Addr) (cx cy : Nat) (xs ys : List (Int × Int × Int)) (which n : Int) (w : World) (hSx : Span w w.heap.size 3 Ax xs.length (tcs xs)) (hSy : Span w w.heap.size 3 Ay ys.length (tcs ys))
    (hb : (∀ x ∈ xs, Tri x) ∧ (∀ x ∈ ys, Tri x) ∧ I64 which ∧ I64 n ∧ xs.length ≤ maxLen ∧ ys.length ≤ maxLen) :
    Calls Try.prog 5 #[.slice Ax xs.length cx, .slice Ay ys.length cy, .int .i64 which, .int .i64 n] w fun e w' => e = .returned (.bool true) ∧ Below w.heap.size w w' := by
  obtain ⟨hax, hay, hwh, hn, hlx, hly⟩ := hb
  have a_mk := (made_mk xs).mono (Nat.min_le_right _ _)
  obtain ⟨a, ha⟩ : ∃ A, A = madeV xs := ⟨_, rfl⟩
  rw [← ha] at a_mk
  have HA := Lib.hid ha
  have b_mk := (made_mk ys).mono (Nat.min_le_right _ _)
  obtain ⟨b, hb⟩ : ∃ A, A = madeV ys := ⟨_, rfl⟩
  rw [← hb] at b_mk
  have HB := Lib.hid hb
  clear ha hb
  obtain ⟨d, e1, m1, h1, z1⟩ := diff_mk a_mk b_mk (by omega) (by omega)
  have nil_iff : d = [] ↔ a = b := by
    constructor
    · intro hd
      refine same_hold a_mk.1 b_mk.1 fun n => ?_
      have := h1 n
      rw [hd] at this
      by_cases x : hold a n = hold b n
      · exact x
      · rw [if_neg x] at this; exact absurd this (by simp [hold])
    · intro hab
      refine same_hold m1.1 trivial fun n => ?_
      rw [h1, hab, if_pos rfl]; rfl
  obtain ⟨s, hs⟩ : ∃ s, s = decide (a = b) := ⟨_, rfl⟩
  have hs0 : ((d.length : Int) == 0) = s := by
    rw [hs, Bool.eq_iff_iff, beq_iff_eq, decide_eq_true_iff, ← nil_iff]
    constructor
    · intro h; exact List.eq_nil_of_length_eq_zero (by omega)
    · intro h; rw [h]; rfl
  have HS := Lib.hid hs
  have HS0 := Lib.hid hs0
  have A1 : ∀ n, anyIn d n = decide (hold a n ≠ hold b n) := fun n => by
    rw [anyIn_iff m1.1, h1]; by_cases x : hold a n = hold b n <;> simp [x]
  have E1 := Lib.hid e1
  have H1 := Lib.hid A1
  have Z1 := Lib.hid z1
  have MD := Lib.hid m1.1
  have MA := Lib.hid a_mk.1
  have MB := Lib.hid b_mk.1
  have AV := Lib.hid (a_mk.valid (by omega))
  have BV := Lib.hid (b_mk.valid (by omega))
  have AM := Lib.hid a_mk
  clear e1 h1 z1 m1 A1 hs hs0 nil_iff a_mk b_mk
  obtain ⟨W0, hW0⟩ : ∃ W0, W0 = w := ⟨_, rfl⟩
  have HSX : Hid (Span W0 W0.heap.size 3 Ax xs.length (tcs xs)) := Lib.hid (by rw [hW0]; exact hSx)
  have HSY : Hid (Span W0 W0.heap.size 3 Ay ys.length (tcs ys)) := Lib.hid (by rw [hW0]; exact hSy)
  subst hW0
  have HW := Lib.hid (Below.refl W0.heap.size W0)
  have TX := Lib.hid hax
  have TY := Lib.hid hay
  clear hSx hSy hax hay
  go_enter Try.func5, Try.ntmps5
  go_wp2_with fail
  refine (sane_any _).mono ?_
  rintro e W1 ⟨rfl, hb⟩
  replace HW := Lib.hid (below_trans HW.out hb)
  replace HSX := Lib.hid ((HSX.out.below hb (Nat.le_refl _)).mono hb.size)
  replace HSY := Lib.hid ((HSY.out.below hb (Nat.le_refl _)).mono hb.size)
  clear hb
  go_wp2_with fail
  refine (made_any Ax cx xs _ hlx HSX.out TX.out).mono ?_
  rintro e W2 ⟨⟨va, rfl, h1⟩, hb⟩
  clear HSX
  replace HW := Lib.hid (below_trans HW.out hb)
  replace HSY := Lib.hid ((HSY.out.below hb (Nat.le_refl _)).mono hb.size)
  clear hb
  rw [← HA.out] at h1
  have Ha := Lib.hid h1
  clear h1
  go_wp2_with fail
  refine (made_any Ay cy ys _ hly HSY.out TY.out).mono ?_
  rintro e W3 ⟨⟨vb, rfl, h1⟩, hb⟩
  clear HSY
  replace HW := Lib.hid (below_trans HW.out hb)
  replace Ha := Lib.hid (Ha.out.later hb)
  clear hb
  rw [← HB.out] at h1
  have Hb := Lib.hid h1
  clear h1
  go_wp2_with fail
  refine (differ_any _ _ a b _ Ha.out Hb.out).mono ?_
  rw [E1.out]
  rintro e W4 ⟨v1, rfl, h1, hb⟩
  dsimp only at h1 ⊢
  replace HW := Lib.hid (below_trans HW.out hb)
  replace Ha := Lib.hid (Ha.out.later hb)
  replace Hb := Lib.hid (Hb.out.later hb)
  clear hb
  have Hd := Lib.hid h1
  clear h1
  obtain ⟨Ad, cd, hvd, hc0, hc1, hsp⟩ := Hd.out
  subst hvd
  have SPD := Lib.hid hsp
  clear hsp
  unfold maxLen at hc1
  have hs0 := HS0.out
  go_wp2_with fail
  refine (same_any _ _ a b _ Ha.out Hb.out).mono ?_
  rintro e W5 ⟨rfl, hb⟩
  rw [← HS.out]
  replace HW := Lib.hid (below_trans HW.out hb)
  replace Ha := Lib.hid (Ha.out.later hb)
  replace Hb := Lib.hid (Hb.out.later hb)
  replace Hd := Lib.hid (Hd.out.later hb)
  replace SPD := Lib.hid ((SPD.out.below hb (Nat.le_refl _)).mono hb.size)
  clear hb
  go_wp2_with fail
  clear hs0
  go_loopw [14] (fun i wr => ∃ j : Nat, j ≤ d.length ∧ i = .int .i64 j ∧ Below W5.heap.size W5 wr) (fun i _ => d.length - (intOf i).toNat)
  case atStart => exact ⟨0, by omega, rfl, Below.refl _ _⟩
  obtain ⟨j, hj, rfl, hbr⟩ := hrel
  by_cases hjn : j < d.length
  · obtain ⟨x, hx⟩ : ∃ x, x = d[j] := ⟨_, rfl⟩
    have hrx := canon_rng MD.out d[j] (List.getElem_mem hjn)
    obtain ⟨ad, had, _, x0, x1⟩ := span_rng (SPD.out.below hbr (Nat.le_refl _)) (List.getElem?_eq_getElem hjn)
    rw [← hx] at hrx x0 x1
    subst had
    have z0 : (0 : Int) ≤ (j : Int) := by omega
    have z1 : (j : Int) < (d.length : Int) := by omega
    obtain ⟨q0, q1, q2⟩ := hrx
    have t1 : decide (x.f < 0) = false := by simp; omega
    have t2 : decide (x.t ≤ x.f) = false := by simp; omega
    have t3 : decide (100000000 < x.t) = false := by simp; omega
    by_cases h0 : 0 < j
    · obtain ⟨y, hy⟩ : ∃ y, y = d[j - 1] := ⟨_, rfl⟩
      obtain ⟨ad', had', _, y0, y1⟩ := span_rng (SPD.out.below hbr (Nat.le_refl _)) (List.getElem?_eq_getElem (show j - 1 < d.length by omega))
      cases had'
      rw [← hy] at y0 y1
      have hadj : y.t < x.f := by
        obtain ⟨u1, u2⟩ := asc_adj MD.out (i := j - 1) (by omega)
        simp only [Nat.sub_add_cancel h0] at u1 u2
        rw [← hx, ← hy] at u1 u2
        have := Z1.out x (by rw [hx]; exact List.getElem_mem _)
        have := Z1.out y (by rw [hy]; exact List.getElem_mem _)
        omega
      have t4 : decide (x.f ≤ y.t) = false := by simp; omega
      have t5 : decide ((0 : Int) < (j : Int)) = true := by simp; omega
      have s1 : IntKind.i64.wrap ((j : Int) - 1) = ((j - 1 : Nat) : Int) := by rw [IntWalk.i64_in _ (by omega)]; omega
      have z2 : (0 : Int) ≤ ((j - 1 : Nat) : Int) := by omega
      have z3 : ((j - 1 : Nat) : Int) < (d.length : Int) := by omega
      clear hy hx
      go_upto_region 12 with fail
      go_quiet (fail)
      go_wp2_with fail
      exact ⟨⟨j + 1, by omega, by go_num, below_dN hbr _⟩, by simp [intOf]; omega⟩
    · have t5 : decide ((0 : Int) < (j : Int)) = false := by simp; omega
      clear hx
      go_upto_region 12 with fail
      go_quiet (fail)
      go_wp2_with fail
      exact ⟨⟨j + 1, by omega, by go_num, below_dN hbr _⟩, by simp [intOf]; omega⟩
  obtain ⟨W6, hnew⟩ : ∃ W, W = wr := ⟨_, rfl⟩
  subst hnew
  have hb := hbr
  clear hbr
  clear SPD Z1 MD
  replace HW := Lib.hid (below_trans HW.out hb)
  replace Ha := Lib.hid (Ha.out.later hb)
  replace Hb := Lib.hid (Hb.out.later hb)
  replace Hd := Lib.hid (Hd.out.later hb)
  clear hb
  obtain ⟨k0, hk0⟩ : ∃ x, x = nearV a which n := ⟨_, rfl⟩
  have K0 := Lib.hid hk0
  obtain ⟨k1, hk1⟩ : ∃ x, x = nearV b which n := ⟨_, rfl⟩
  have K1 := Lib.hid hk1
  obtain ⟨k2, hk2⟩ : ∃ x, x = pickV n 100000000 := ⟨_, rfl⟩
  have K2 := Lib.hid hk2
  clear hk0 hk1 hk2
  go_wp2_with fail
  refine (near_any _ a which n _ Ha.out AV.out hwh hn).mono ?_
  rintro e W7 ⟨rfl, hb⟩
  rw [← K0.out]
  replace HW := Lib.hid (below_trans HW.out hb)
  replace Ha := Lib.hid (Ha.out.later hb)
  replace Hb := Lib.hid (Hb.out.later hb)
  replace Hd := Lib.hid (Hd.out.later hb)
  clear hb
  go_wp2_with fail
  refine (near_any _ b which n _ Hb.out BV.out hwh hn).mono ?_
  rintro e W8 ⟨rfl, hb⟩
  rw [← K1.out]
  replace HW := Lib.hid (below_trans HW.out hb)
  replace Ha := Lib.hid (Ha.out.later hb)
  replace Hb := Lib.hid (Hb.out.later hb)
  replace Hd := Lib.hid (Hd.out.later hb)
  clear hb
  go_wp2_with fail
  refine (pick_any n 100000000 _ hn (by decide) (by decide)).mono ?_
  rintro e wq ⟨rfl, rfl⟩
  rw [← K2.out]
  go_wp2_with fail
  obtain ⟨W9, hnew⟩ : ∃ W, W = W8.alloc (.cells #[.int .i64 k0, .int .i64 k1, .int .i64 k2] 3) := ⟨_, rfl⟩
  rw [← hnew]
  have CK3 : Hid (W9.heap[W8.heap.size]? = some (.cells #[.int .i64 k0, .int .i64 k1, .int .i64 k2] 3)) := Lib.hid (by rw [hnew]; exact new_heap _ _)
  have hb : Below W8.heap.size W8 W9 := by rw [hnew]; exact below_al _ _
  clear hnew
  replace HW := Lib.hid (below_trans HW.out hb)
  replace Ha := Lib.hid (Ha.out.later hb)
  replace Hb := Lib.hid (Hb.out.later hb)
  replace Hd := Lib.hid (Hd.out.later hb)
  clear hb
  go_loopw [111] (fun i wr => ∃ j : Nat, j ≤ 3 ∧ i = .int .i64 j ∧ Below W9.heap.size W9 wr) (fun i _ => 3 - (intOf i).toNat)
  case atStart => exact ⟨0, by omega, rfl, Below.refl _ _⟩
  obtain ⟨j, hj, rfl, hbr⟩ := hrel
  by_cases hj5 : j < 3
  · have ck : ∃ k : Int, (#[.int .i64 k0, .int .i64 k1, .int .i64 k2] : Array Value)[j]? = some (.int .i64 k) := by
      match j, hj5 with
      | 0, _ => exact ⟨_, rfl⟩
      | 1, _ => exact ⟨_, rfl⟩
      | 2, _ => exact ⟨_, rfl⟩
    obtain ⟨k, hk⟩ := ck
    have cell : wr.cell? ⟨W8.heap.size, j, none⟩ = some (.int .i64 k) := by
      have h := (hbr.block _ (Array.getElem?_eq_some_iff.1 CK3.out).1).trans CK3.out
      simp only [World.cell?, h]; exact hk
    obtain ⟨Y0, hY0⟩ : ∃ Y, Y = wr := ⟨_, rfl⟩
    subst hY0
    clear HW hk
    have HW := Lib.hid hbr
    have Ya := Lib.hid (Ha.out.later hbr)
    have Yb := Lib.hid (Hb.out.later hbr)
    have Yd := Lib.hid (Hd.out.later hbr)
    clear hbr
    have z0 : (0 : Int) ≤ (j : Int) := by omega
    have z1 : (j : Int) < 3 := by omega
    obtain ⟨p, hp⟩ : ∃ x, x = hold a k := ⟨_, rfl⟩
    obtain ⟨q, hq⟩ : ∃ x, x = hold b k := ⟨_, rfl⟩
    have HP := Lib.hid hp
    have HQ := Lib.hid hq
    clear hp hq
    by_cases hpq : p = q
    · have T1 := Lib.hid (show anyIn d k = false by rw [H1.out, ← HP.out, ← HQ.out]; simp [hpq])
      subst hpq
      go_wp2_with fail
      refine (differs_any _ d k _ Yd.out).mono ?_
      rintro e Y1 ⟨rfl, hb⟩
      rw [T1.out]
      replace HW := Lib.hid (below_trans HW.out hb)
      replace Ya := Lib.hid (Ya.out.later hb)
      replace Yb := Lib.hid (Yb.out.later hb)
      replace Yd := Lib.hid (Yd.out.later hb)
      clear hb
      go_wp2_with fail
      refine (holder_any _ a k _ Ya.out AV.out).mono ?_
      rintro e Y2 ⟨rfl, hb⟩
      rw [← HP.out]
      replace HW := Lib.hid (below_trans HW.out hb)
      replace Ya := Lib.hid (Ya.out.later hb)
      replace Yb := Lib.hid (Yb.out.later hb)
      replace Yd := Lib.hid (Yd.out.later hb)
      clear hb
      go_wp2_with fail
      refine (holder_any _ b k _ Yb.out BV.out).mono ?_
      rintro e Y3 ⟨rfl, hb⟩
      rw [← HQ.out]
      replace HW := Lib.hid (below_trans HW.out hb)
      replace Ya := Lib.hid (Ya.out.later hb)
      replace Yb := Lib.hid (Yb.out.later hb)
      replace Yd := Lib.hid (Yd.out.later hb)
      clear hb
      go_wp2_with fail
      exact ⟨⟨j + 1, by omega, by go_num, HW.out⟩, by simp [intOf]; omega⟩
    · have T1 := Lib.hid (show anyIn d k = true by rw [H1.out, ← HP.out, ← HQ.out]; simp [hpq])
      have hne : (p != q) = true := by simp [hpq]
      clear hpq
      go_wp2_with fail
      refine (differs_any _ d k _ Yd.out).mono ?_
      rintro e Y1 ⟨rfl, hb⟩
      rw [T1.out]
      replace HW := Lib.hid (below_trans HW.out hb)
      replace Ya := Lib.hid (Ya.out.later hb)
      replace Yb := Lib.hid (Yb.out.later hb)
      replace Yd := Lib.hid (Yd.out.later hb)
      clear hb
      go_wp2_with fail
      refine (holder_any _ a k _ Ya.out AV.out).mono ?_
      rintro e Y2 ⟨rfl, hb⟩
      rw [← HP.out]
      replace HW := Lib.hid (below_trans HW.out hb)
      replace Ya := Lib.hid (Ya.out.later hb)
      replace Yb := Lib.hid (Yb.out.later hb)
      replace Yd := Lib.hid (Yd.out.later hb)
      clear hb
      go_wp2_with fail
      refine (holder_any _ b k _ Yb.out BV.out).mono ?_
      rintro e Y3 ⟨rfl, hb⟩
      rw [← HQ.out]
      replace HW := Lib.hid (below_trans HW.out hb)
      replace Ya := Lib.hid (Ya.out.later hb)
      replace Yb := Lib.hid (Yb.out.later hb)
      replace Yd := Lib.hid (Yd.out.later hb)
      clear hb
      go_wp2_with fail
      exact ⟨⟨j + 1, by omega, by go_num, HW.out⟩, by simp [intOf]; omega⟩
  obtain ⟨W10, hnew⟩ : ∃ W, W = wr := ⟨_, rfl⟩
  subst hnew
  have hb := hbr
  clear hbr
  clear Hd Hb CK3 H1
  replace HW := Lib.hid (below_trans HW.out hb)
  replace Ha := Lib.hid (Ha.out.later hb)
  clear hb
  obtain ⟨Aa, ca, hva, hac0, hac1, hspa⟩ := Ha.out
  subst hva
  have SPA := Lib.hid hspa
  clear hspa
  unfold maxLen at hac1
  by_cases ha0 : a.length = 0
  · have ta : ((a.length : Int) == 0) = true := by rw [beq_iff_eq]; omega
    clear ha0
    go_wp2_with fail
    go_ret
    exact ⟨rfl, HW.out⟩
  have ta : ((a.length : Int) == 0) = false := by rw [beq_eq_false_iff_ne]; omega
  have bk := pickV_bd which (show (0 : Int) < (a.length : Int) by omega)
  obtain ⟨k, hk⟩ := Int.eq_ofNat_of_zero_le bk.1
  have hkl : k < a.length := by omega
  have HKK := Lib.hid hk
  obtain ⟨x, hx⟩ : ∃ x, x = a[k] := ⟨_, rfl⟩
  have hrx := canon_rng MA.out a[k] (List.getElem_mem hkl)
  have hin : ∀ n, x.f ≤ n → n < x.t → hold a n = x.c := fun n h1 h2 => by rw [hx] at h1 h2 ⊢; exact hold_mem MA.out (List.getElem_mem hkl) n h1 h2
  have hcar : 0 ≤ x.c ∧ x.c ≤ 7 := by rw [hx]; exact asc_car MA.out (List.getElem_mem hkl)
  rw [← hx] at hrx
  obtain ⟨q0, q1, q2⟩ := hrx
  have b1 := pickV_bd n (show (0 : Int) < x.t - x.f by omega)
  obtain ⟨m1, hm1⟩ : ∃ m, m = pickV n (x.t - x.f) := ⟨_, rfl⟩
  rw [← hm1] at b1
  have b2 := pickV_bd which (show (0 : Int) < x.t - (x.f + m1) by omega)
  obtain ⟨m2, hm2⟩ : ∃ m, m = pickV which (x.t - (x.f + m1)) := ⟨_, rfl⟩
  rw [← hm2] at b2
  have M1 := Lib.hid hm1
  have M2 := Lib.hid hm2
  obtain ⟨pf, hpf⟩ : ∃ y, y = x.f + m1 := ⟨_, rfl⟩
  obtain ⟨pt, hpt⟩ : ∃ y, y = pf + 1 + m2 := ⟨_, rfl⟩
  have hrp : rngB pf pt = true := rngB_iff.2 (by omega)
  have hcx : carB x.c = true := carB_iff.2 hcar
  obtain ⟨l', e2, m2', h2⟩ := give_mk AM.out (by omega) hrp hcx
  have hl' : l' = a := same_hold m2'.1 MA.out fun n => by
    rw [h2]
    by_cases hn : pf ≤ n ∧ n < pt
    · rw [if_pos hn, hin n (by omega) (by omega)]
    · rw [if_neg hn]
  rw [hl'] at e2
  obtain ⟨d', e3, m3, h3, _⟩ := diff_mk AM.out AM.out (by omega) (by omega)
  have hd' : d' = [] := same_hold m3.1 trivial fun n => by rw [h3, if_pos rfl]; rfl
  rw [hd'] at e3
  have E2 := Lib.hid e2
  have E3 := Lib.hid e3
  have PF := Lib.hid hpf
  have PT := Lib.hid hpt
  have i1 : 0 ≤ pf := by omega
  have i2 : pf ≤ 100000000 := by omega
  have i3 : pf < x.t := by omega
  have i4 : pt ≤ 100000000 := by omega
  obtain ⟨v1, v2⟩ := hcar
  have HX := Lib.hid hx
  clear hk hm1 hm2 e2 m2' h2 hl' e3 m3 h3 hd' hin hpf hpt hrp hcx hx
  go_wp2_with fail
  refine (pick_any which a.length _ hwh (by omega) (by omega)).mono ?_
  rintro e wq ⟨rfl, rfl⟩
  rw [HKK.out]
  obtain ⟨ad, had, _, x0, x1, x2⟩ := span_blk SPA.out (List.getElem?_eq_getElem hkl)
  rw [← HX.out] at x0 x1 x2
  subst had
  have z0 : (0 : Int) ≤ (k : Int) := by omega
  have z1 : (k : Int) < (a.length : Int) := by omega
  go_upto_region 23 with fail
  obtain ⟨W11, hnew⟩ : ∃ W, W = W10.alloc (.cells #[.int .i64 x.f, .int .i64 x.t, .int .i64 x.c] 53) := ⟨_, rfl⟩
  rw [← hnew]
  have CX : Hid (W11.heap[W10.heap.size]? = some (.cells #[.int .i64 x.f, .int .i64 x.t, .int .i64 x.c] 53)) := Lib.hid (by rw [hnew]; exact new_heap _ _)
  have hb : Below W10.heap.size W10 W11 := by rw [hnew]; exact below_al _ _
  clear hnew x0 x1 x2
  clear SPA
  replace HW := Lib.hid (below_trans HW.out hb)
  replace Ha := Lib.hid (Ha.out.later hb)
  clear hb
  have s1 : IntKind.i64.wrap (x.t - x.f) = x.t - x.f := IntWalk.i64_in _ (by omega)
  have s2 : IntKind.i64.wrap (x.f + m1) = x.f + m1 := IntWalk.i64_in _ (by omega)
  have y0 := blk_cell (cs := [.int .i64 x.f, .int .i64 x.t, .int .i64 x.c]) CX.out (i := 0) rfl
  have y1 := blk_cell (cs := [.int .i64 x.f, .int .i64 x.t, .int .i64 x.c]) CX.out (i := 1) rfl
  have hlt : W10.heap.size < W11.heap.size := (Array.getElem?_eq_some_iff.1 CX.out).1
  go_cut [18] (fun s18 wx => ∃ g : Nat, s18 = .pointer (some ⟨g, 0, none⟩) ∧ wx.heap[g]? = some (.cells #[.int .i64 (x.f + m1), .int .i64 0] 26) ∧ W11.heap.size ≤ g ∧ Below W11.heap.size W11 wx)
  case first =>
    go_region_held3 (fun w' => w'.cell? ⟨W10.heap.size, 0, none⟩ = some (.int .i64 x.f) ∧ w'.cell? ⟨W10.heap.size, 1, none⟩ = some (.int .i64 x.t)) (go_keep)
      (first | (go_at_call 17; (with_reducible refine (pick_any n (x.t - x.f) _ hn (by omega) (by omega)).mono ?_); rintro e wq ⟨rfl, rfl⟩; rw [← M1.out]))
    all_goals
      go_wp2_with fail
      go_meet
      first
        | exact ⟨W11.heap.size, rfl, new_heap _ _, Nat.le_refl _, (below_al W11 _).drew⟩
        | exact ⟨W11.heap.size, rfl, new_heap _ _, Nat.le_refl _, (Below.refl _ W11).drew.alloc (Nat.le_refl _) _⟩
  clear s1 s2 y0 y1
  obtain ⟨gp, hgp, hg, hgl, hb⟩ := hcut
  obtain ⟨W12, hnew⟩ : ∃ W, W = wc := ⟨_, rfl⟩
  subst hnew
  have CP0 := Lib.hid hg
  clear hg
  have HWX := HW
  replace HW := Lib.hid (below_trans HW.out hb)
  have Ha0 := Ha
  have HB0 := Lib.hid hb
  have HG0 := Lib.hid hgl
  replace Ha := Lib.hid (Ha.out.later hb)
  replace CX := Lib.hid (cell_keep CX.out hb)
  subst hgp
  have hgs : gp < W12.heap.size := (Array.getElem?_eq_some_iff.1 CP0.out).1
  have hcs : W10.heap.size < W12.heap.size := (Array.getElem?_eq_some_iff.1 CX.out).1
  have hne : W10.heap.size ≠ gp := by omega
  clear hb hgl hlt
  have s1 : IntKind.i64.wrap (x.t - (x.f + m1)) = x.t - (x.f + m1) := IntWalk.i64_in _ (by omega)
  have s2 : IntKind.i64.wrap (x.f + m1 + 1) = x.f + m1 + 1 := IntWalk.i64_in _ (by omega)
  have s3 : IntKind.i64.wrap (x.f + m1 + 1 + m2) = x.f + m1 + 1 + m2 := IntWalk.i64_in _ (by omega)
  have y0 := blk_cell (cs := [.int .i64 (x.f + m1), .int .i64 0]) CP0.out (i := 0) rfl
  have y1 := blk_cell (cs := [.int .i64 (x.f + m1), .int .i64 0]) CP0.out (i := 1) rfl
  have y2 := blk_frozen CP0.out 1
  have y3 := blk_cell (cs := [.int .i64 x.f, .int .i64 x.t, .int .i64 x.c]) CX.out (i := 1) rfl
  have k0 := Lib.hid (show ((W12.setCell ⟨gp, 1, none⟩ (.int .i64 (x.f + m1 + 1 + m2))).drew).cell? ⟨gp, 0, none⟩ = some (.int .i64 (x.f + m1)) from (World.cell?_setCell_other _ _ _ _ (by simp)).trans y0)
  have k1 := Lib.hid (show ((W12.setCell ⟨gp, 1, none⟩ (.int .i64 (x.f + m1 + 1 + m2))).drew).cell? ⟨W10.heap.size, 1, none⟩ = some (.int .i64 x.t) from (World.cell?_setCell_other _ _ _ _ (by simp)).trans y3)
  go_upto_region 24 with fail
  go_region_held3 (fun w' => w'.cell? ⟨gp, 0, none⟩ = some (.int .i64 (x.f + m1)) ∧ w'.cell? ⟨W10.heap.size, 1, none⟩ = some (.int .i64 x.t)) (first | exact ⟨k0.out, k1.out⟩ | go_keep)
    (first | (go_at_call 17; (with_reducible refine (pick_any which (x.t - (x.f + m1)) _ hwh (by omega) (by omega)).mono ?_); rintro e wq ⟨rfl, rfl⟩; rw [← M2.out]))
  clear s1 s2 s3 y0 y1 y2 y3 k0 k1
  obtain ⟨W13, hW13⟩ : ∃ W, W = (W12.setCell ⟨gp, 1, none⟩ (.int .i64 (x.f + m1 + 1 + m2))).drew := ⟨_, rfl⟩
  rw [← hW13]
  have CP : Hid (W13.heap[gp]? = some (.cells #[.int .i64 pf, .int .i64 pt] 26)) := Lib.hid (by
    rw [PT.out, PF.out, hW13]; simp [World.setCell, Array.getElem?_modify, World.drew, CP0.out])
  have CX2 : Hid (W13.heap[W10.heap.size]? = some (.cells #[.int .i64 x.f, .int .i64 x.t, .int .i64 x.c] 53)) := Lib.hid (by
    rw [hW13]; exact (Below.heap_setCell _ _ _ _ hne).trans CX.out)
  have HW13 : Hid (Below W0.heap.size W0 W13) := Lib.hid (by
    rw [hW13]; exact (HW.out.setCell (Nat.le_trans HWX.out.size HG0.out) _).drew)
  have Ha13 : Hid (HoldsB W13 W13.heap.size (Value.slice (some ad) a.length ca) a) := Lib.hid (by
    refine (Ha0.out.keep fun k hk => ?_).mono ?_
    · have hkg : k ≠ gp := by have := HG0.out; omega
      rw [hW13]; exact (Below.heap_setCell _ _ _ _ hkg).trans (HB0.out.block k hk)
    · rw [hW13]; have := HB0.out.size; simpa [World.setCell] using this)
  clear hW13 CX CP0 HW Ha Ha0 HB0 HG0 hgs hcs
  have HW := HW13
  have Ha := Ha13
  clear HW13 Ha13
  have y0 := blk_cell (cs := [.int .i64 pf, .int .i64 pt]) CP.out (i := 0) rfl
  have y1 := blk_cell (cs := [.int .i64 pf, .int .i64 pt]) CP.out (i := 1) rfl
  have y3 := blk_cell (cs := [.int .i64 x.f, .int .i64 x.t, .int .i64 x.c]) CX2.out (i := 2) rfl
  go_wp2_with fail
  refine (give_any _ a pf pt x.c _ Ha.out).mono ?_
  rw [E2.out]
  rintro e W14 ⟨v14, rfl, h1, hb⟩
  dsimp only at h1 ⊢
  clear y0 y1 y3
  replace HW := Lib.hid (below_trans HW.out hb)
  replace Ha := Lib.hid (Ha.out.later hb)
  clear hb
  have Hs := Lib.hid h1
  clear h1 CP CX2 hne
  go_wp2_with fail
  refine (differ_any _ _ a a _ Ha.out Hs.out).mono ?_
  rw [E3.out]
  rintro e W15 ⟨v15, rfl, h1, hb⟩
  dsimp only at h1 ⊢
  replace HW := Lib.hid (below_trans HW.out hb)
  replace Ha := Lib.hid (Ha.out.later hb)
  replace Hs := Lib.hid (Hs.out.later hb)
  clear hb
  have Hn := Lib.hid h1
  clear h1
  obtain ⟨An, cn, hvn, hn0, hn1, _⟩ := Hn.out
  subst hvn
  simp only [List.length_nil] at hn0
  go_wp2_with fail
  refine (same_any _ _ a a _ Hs.out Ha.out).mono ?_
  rintro e W16 ⟨rfl, hb⟩
  rw [decide_eq_true (rfl : a = a)]
  replace HW := Lib.hid (below_trans HW.out hb)
  replace Ha := Lib.hid (Ha.out.later hb)
  replace Hs := Lib.hid (Hs.out.later hb)
  replace Hn := Lib.hid (Hn.out.later hb)
  clear hb
  go_wp2_with fail
  go_ret
  exact ⟨rfl, HW.out⟩
end Go.Proofs.Ytmgippddljmfjaa
