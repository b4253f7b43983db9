/-
  The contract of the law BlockFree: it returns true.
-/
import Derived.Test.YtmgippddljmfjaaWalk25
namespace Go.Proofs.Ytmgippddljmfjaa
open Go Go.RowKit Go.Dial Go.Dial.Blk

set_option maxRecDepth 100000 in
set_option maxHeartbeats 8000000 in
theorem law10_any (Ax : Option Addr) (cx : Nat) (xs : List (Int × Int × Int)) (which n to_ between : Int) (w : World) (hlen : xs.length ≤ maxLen) (hS : Span w w.heap.size 3 Ax xs.length (tcs xs))
    (hb : (∀ x ∈ xs, Tri x) ∧ I64 which ∧ I64 n ∧ I64 to_ ∧ I64 between) :
    Calls Try.prog 10 #[.slice Ax xs.length cx, .int .i64 which, .int .i64 n, .int .i64 to_, .int .i64 between] w fun e w' => e = .returned (.bool true) ∧ Below w.heap.size w w' := by
  obtain ⟨ha, hwh, hn, hto, hbt⟩ := hb
  have a_mk := (made_mk xs).mono (Nat.min_le_right _ _)
  obtain ⟨a, hA⟩ : ∃ A, A = madeV xs := ⟨_, rfl⟩
  rw [← hA] at a_mk
  have HA := Lib.hid hA
  have hv := a_mk.valid (by omega)
  have AV := Lib.hid hv
  have HM := Lib.hid a_mk
  have nr := near_i64 a_mk.1 which n hn
  obtain ⟨m, hm⟩ : ∃ m, m = nearV a which n := ⟨_, rfl⟩
  rw [← hm] at nr
  have HN := Lib.hid hm
  have V_car := car_pick to_
  obtain ⟨v, hv'⟩ : ∃ y, y = pickV to_ 8 := ⟨_, rfl⟩
  rw [← hv'] at V_car
  have HV := Lib.hid hv'
  clear hA hm hv hv' a_mk
  obtain ⟨n1, n2⟩ := nr
  have HSX := Lib.hid hS
  have HW : Hid (Below w.heap.size w w) := Lib.hid (Below.refl _ _)
  obtain ⟨W0, hW0⟩ : ∃ W0, W0 = w := ⟨_, rfl⟩
  rw [← hW0] at HSX HW
  subst hW0
  clear hS
  go_enter Try.func10, Try.ntmps10
  go_wp2_with fail
  refine (sane_any _).mono ?_
  rintro e W1 ⟨rfl, hb⟩
  replace HW := Lib.hid (below_trans HW.out hb)
  replace HSX := Lib.hid ((HSX.out.below hb (Nat.le_refl _)).mono hb.size)
  clear hb
  go_wp2_with fail
  refine (made_any Ax cx xs _ hlen HSX.out ha).mono ?_
  rintro e W2 ⟨⟨va, rfl, h1⟩, hb⟩
  clear HSX
  replace HW := Lib.hid (below_trans HW.out hb)
  clear hb
  rw [← HA.out] at h1
  have Ha := Lib.hid h1
  clear h1
  go_wp2_with fail
  refine (near_any _ a which n _ Ha.out AV.out hwh hn).mono ?_
  rintro e W3 ⟨rfl, hb⟩
  replace HW := Lib.hid (below_trans HW.out hb)
  replace Ha := Lib.hid (Ha.out.later hb)
  clear hb
  rw [← HN.out]
  by_cases r1 : m < 0
  · have E := Lib.hid (show freeV a m = (0, false) from if_neg (fun h => by omega))
    go_wp2_with fail
    refine (free_any _ a m _ Ha.out).mono ?_
    rintro e W4 ⟨rfl, hb⟩
    rw [E.out]
    replace HW := Lib.hid (below_trans HW.out hb)
    replace Ha := Lib.hid (Ha.out.later hb)
    clear hb
    dsimp only
    go_wp2_with fail
    go_ret
    exact ⟨rfl, HW.out⟩
  by_cases r2 : 99999999 < m
  · have E := Lib.hid (show freeV a m = (0, false) from if_neg (fun h => by omega))
    go_wp2_with fail
    refine (free_any _ a m _ Ha.out).mono ?_
    rintro e W4 ⟨rfl, hb⟩
    rw [E.out]
    replace HW := Lib.hid (below_trans HW.out hb)
    replace Ha := Lib.hid (Ha.out.later hb)
    clear hb
    dsimp only
    go_wp2_with fail
    go_ret
    exact ⟨rfl, HW.out⟩
  have fe := freeV_eq AV.out (by omega) (by omega : m ≤ 99999999)
  obtain ⟨⟨l1, l2, l3⟩, l4⟩ := freeN_least HM.out.1 m
  obtain ⟨k, hk⟩ : ∃ k, k = freeN a m := ⟨_, rfl⟩
  rw [← hk] at fe l1 l2 l3 l4
  have l5 := l4 (by omega)
  clear l4 hk
  have L2 := Lib.hid l2
  have L3 := Lib.hid l3
  clear l2 l3
  by_cases r3 : 99999999 < k
  · have E := Lib.hid (show freeV a m = (0, false) by rw [fe, if_neg (by omega)])
    clear fe
    have bp := pickV_bd between (show (0 : Int) < 100000000 - m by omega)
    obtain ⟨q, hq⟩ : ∃ q, q = pickV between (100000000 - m) := ⟨_, rfl⟩
    rw [← hq] at bp
    have HQ := Lib.hid hq
    clear hq
    have hr := hold_range HM.out.1 (m + q)
    have hne := L3.out (m + q) (by omega) (by omega)
    obtain ⟨h, hh⟩ : ∃ h, h = hold a (m + q) := ⟨_, rfl⟩
    rw [← hh] at hr hne
    have h0 : 0 ≤ h := by omega
    have HH := Lib.hid hh
    clear hh hne
    go_wp2_with fail
    refine (free_any _ a m _ Ha.out).mono ?_
    rintro e W4 ⟨rfl, hb⟩
    rw [E.out]
    replace HW := Lib.hid (below_trans HW.out hb)
    replace Ha := Lib.hid (Ha.out.later hb)
    clear hb
    dsimp only
    go_wp2_with fail
    refine (pick_any between (100000000 - m) _ hbt (by omega) (by omega)).mono ?_
    rintro e wq ⟨rfl, rfl⟩
    rw [← HQ.out]
    go_wp2_with fail
    refine (holder_any _ a (m + q) _ Ha.out AV.out).mono ?_
    rintro e W5 ⟨rfl, hb⟩
    rw [← HH.out]
    replace HW := Lib.hid (below_trans HW.out hb)
    replace Ha := Lib.hid (Ha.out.later hb)
    clear hb
    go_wp2_with fail
    go_ret
    exact ⟨rfl, HW.out⟩
  have E := Lib.hid (show freeV a m = (k, true) by rw [fe, if_pos (by omega)])
  clear fe
  obtain ⟨mo, e1, m1, h1⟩ := give_mk HM.out (by omega) (show rngB k (k + 1) = true by rw [rngB_iff]; omega) V_car
  have E1 := Lib.hid e1
  have MV := Lib.hid (m1.valid (by omega))
  rw [carB_iff] at V_car
  have fe2 := freeV_eq MV.out (by omega : 0 ≤ m) (by omega)
  obtain ⟨⟨k1, k2, k3⟩, k4⟩ := freeN_least m1.1 m
  obtain ⟨m2, hm2⟩ : ∃ x, x = freeN mo m := ⟨_, rfl⟩
  rw [← hm2] at fe2 k1 k2 k3
  have hgt : k < m2 := by
    rcases Int.lt_or_le k m2 with h | h
    · exact h
    · exfalso
      rw [h1] at k2
      by_cases hx : k ≤ m2 ∧ m2 < k + 1
      · rw [if_pos hx] at k2; omega
      · rw [if_neg hx] at k2; exact L3.out m2 k1 (by omega) k2
  have HX : Hid (hold a k = -1) := L2
  clear e1 h1 m1 k2 k3 k4 hm2 L2
  go_wp2_with fail
  refine (free_any _ a m _ Ha.out).mono ?_
  rintro e W4 ⟨rfl, hb⟩
  rw [E.out]
  replace HW := Lib.hid (below_trans HW.out hb)
  replace Ha := Lib.hid (Ha.out.later hb)
  clear hb
  dsimp only
  go_wp2_with fail
  refine (holder_any _ a k _ Ha.out AV.out).mono ?_
  rintro e W5 ⟨rfl, hb⟩
  rw [HX.out]
  replace HW := Lib.hid (below_trans HW.out hb)
  replace Ha := Lib.hid (Ha.out.later hb)
  clear hb
  by_cases r4 : m < k
  · have bp := pickV_bd between (show (0 : Int) < k - m by omega)
    obtain ⟨q, hq⟩ : ∃ q, q = pickV between (k - m) := ⟨_, rfl⟩
    rw [← hq] at bp
    have HQ := Lib.hid hq
    clear hq
    have hr := hold_range HM.out.1 (m + q)
    have hne := L3.out (m + q) (by omega) (by omega)
    obtain ⟨h, hh⟩ : ∃ h, h = hold a (m + q) := ⟨_, rfl⟩
    rw [← hh] at hr hne
    have h0 : 0 ≤ h := by omega
    have HH := Lib.hid hh
    clear hh hne
    go_wp2_with fail
    refine (pick_any between (k - m) _ hbt (by omega) (by omega)).mono ?_
    rintro e wq ⟨rfl, rfl⟩
    rw [← HQ.out]
    go_wp2_with fail
    refine (holder_any _ a (m + q) _ Ha.out AV.out).mono ?_
    rintro e W6 ⟨rfl, hb⟩
    rw [← HH.out]
    replace HW := Lib.hid (below_trans HW.out hb)
    replace Ha := Lib.hid (Ha.out.later hb)
    clear hb
    go_wp2_with fail
    refine (pick_any to_ 8 _ hto (by decide) (by decide)).mono ?_
    rintro e wq ⟨rfl, rfl⟩
    rw [← HV.out]
    go_wp2_with fail
    refine (give_any _ a k (k + 1) v _ Ha.out).mono ?_
    rw [E1.out]
    rintro e W7 ⟨vm, rfl, h1, hb⟩
    dsimp only at h1 ⊢
    replace HW := Lib.hid (below_trans HW.out hb)
    replace Ha := Lib.hid (Ha.out.later hb)
    clear hb
    have Hm := Lib.hid h1
    clear h1
    by_cases r5 : m2 ≤ 99999999
    · have E2 := Lib.hid (show freeV mo m = (m2, true) by rw [fe2, if_pos r5])
      clear fe2
      go_wp2_with fail
      refine (free_any _ mo m _ Hm.out).mono ?_
      rintro e W8 ⟨rfl, hb⟩
      rw [E2.out]
      replace HW := Lib.hid (below_trans HW.out hb)
      replace Ha := Lib.hid (Ha.out.later hb)
      replace Hm := Lib.hid (Hm.out.later hb)
      clear hb
      dsimp only
      go_wp2_with fail
      go_ret
      exact ⟨rfl, HW.out⟩
    · have E2 := Lib.hid (show freeV mo m = (0, false) by rw [fe2, if_neg r5])
      clear fe2
      go_wp2_with fail
      refine (free_any _ mo m _ Hm.out).mono ?_
      rintro e W8 ⟨rfl, hb⟩
      rw [E2.out]
      replace HW := Lib.hid (below_trans HW.out hb)
      replace Ha := Lib.hid (Ha.out.later hb)
      replace Hm := Lib.hid (Hm.out.later hb)
      clear hb
      dsimp only
      go_wp2_with fail
      go_ret
      exact ⟨rfl, HW.out⟩
  · go_wp2_with fail
    refine (pick_any to_ 8 _ hto (by decide) (by decide)).mono ?_
    rintro e wq ⟨rfl, rfl⟩
    rw [← HV.out]
    go_wp2_with fail
    refine (give_any _ a k (k + 1) v _ Ha.out).mono ?_
    rw [E1.out]
    rintro e W6 ⟨vm, rfl, h1, hb⟩
    dsimp only at h1 ⊢
    replace HW := Lib.hid (below_trans HW.out hb)
    replace Ha := Lib.hid (Ha.out.later hb)
    clear hb
    have Hm := Lib.hid h1
    clear h1
    by_cases r5 : m2 ≤ 99999999
    · have E2 := Lib.hid (show freeV mo m = (m2, true) by rw [fe2, if_pos r5])
      clear fe2
      go_wp2_with fail
      refine (free_any _ mo m _ Hm.out).mono ?_
      rintro e W7 ⟨rfl, hb⟩
      rw [E2.out]
      replace HW := Lib.hid (below_trans HW.out hb)
      replace Ha := Lib.hid (Ha.out.later hb)
      replace Hm := Lib.hid (Hm.out.later hb)
      clear hb
      dsimp only
      go_wp2_with fail
      go_ret
      exact ⟨rfl, HW.out⟩
    · have E2 := Lib.hid (show freeV mo m = (0, false) by rw [fe2, if_neg r5])
      clear fe2
      go_wp2_with fail
      refine (free_any _ mo m _ Hm.out).mono ?_
      rintro e W7 ⟨rfl, hb⟩
      rw [E2.out]
      replace HW := Lib.hid (below_trans HW.out hb)
      replace Ha := Lib.hid (Ha.out.later hb)
      replace Hm := Lib.hid (Hm.out.later hb)
      clear hb
      dsimp only
      go_wp2_with fail
      go_ret
      exact ⟨rfl, HW.out⟩
end Go.Proofs.Ytmgippddljmfjaa
