/-
  The contract of the law BlockDiffers: it returns true.
-/
import Derived.Test.YtmgippddljmfjaaWalk27
namespace Go.Proofs.Ytmgippddljmfjaa
open Go Go.RowKit Go.Dial Go.Dial.Blk

set_option maxRecDepth 100000 in
set_option maxHeartbeats 8000000 in
theorem law9_any (Ax Ay Az : Option Addr) (cx cy cz : Nat) (xs ys zs : List (Int × Int × Int)) (which n : Int) (w : World) (hSx : Span w w.heap.size 3 Ax xs.length (tcs xs)) (hSy : Span w w.heap.size 3 Ay ys.length (tcs ys)) (hSz : Span w w.heap.size 3 Az zs.length (tcs zs))
    (hb : (∀ x ∈ xs, Tri x) ∧ (∀ x ∈ ys, Tri x) ∧ (∀ x ∈ zs, Tri x) ∧ I64 which ∧ I64 n ∧ xs.length ≤ cx ∧ ys.length ≤ cy ∧ zs.length ≤ cz ∧ cx ≤ maxLen ∧ cy ≤ maxLen ∧ cz ≤ maxLen) :
    Calls Try.prog 9 #[.slice Ax xs.length cx, .slice Ay ys.length cy, .slice Az zs.length cz, .int .i64 which, .int .i64 n] w fun e w' => e = .returned (.bool true) ∧ Below w.heap.size w w' := by
  obtain ⟨hax, hay, haz, hwh, hn, hcx, hcy, hcz, hmx, hmy, hmz⟩ := hb
  unfold maxLen at hmx hmy hmz
  have a_mk := madeK_mk 8 xs
  obtain ⟨a, ha⟩ : ∃ A, A = madeV (xs.take 8) := ⟨_, rfl⟩
  rw [← ha] at a_mk
  have HA := Lib.hid ha
  have b_mk := madeK_mk 8 ys
  obtain ⟨b, hb⟩ : ∃ A, A = madeV (ys.take 8) := ⟨_, rfl⟩
  rw [← hb] at b_mk
  have HB := Lib.hid hb
  have c_mk := madeK_mk 8 zs
  obtain ⟨c, hc⟩ : ∃ A, A = madeV (zs.take 8) := ⟨_, rfl⟩
  rw [← hc] at c_mk
  have HC := Lib.hid hc
  clear ha hb hc
  obtain ⟨ab, e1, m1, h1, z1⟩ := diff_mk a_mk b_mk (by omega) (by omega)
  obtain ⟨ba, e2, m2, h2, z2⟩ := diff_mk b_mk a_mk (by omega) (by omega)
  obtain ⟨bc, e3, m3, h3, z3⟩ := diff_mk b_mk c_mk (by omega) (by omega)
  obtain ⟨ac, e4, m4, h4, z4⟩ := diff_mk a_mk c_mk (by omega) (by omega)
  have s1 : ab = ba := same_hold m1.1 m2.1 fun n => by
    rw [h1, h2]
    by_cases x : hold a n = hold b n
    · rw [if_pos x, if_pos x.symm]
    · rw [if_neg x, if_neg (fun e => x e.symm)]
  have A1 : ∀ n, anyIn ab n = decide (hold a n ≠ hold b n) := fun n => by
    rw [anyIn_iff m1.1, h1]; by_cases x : hold a n = hold b n <;> simp [x]
  have A3 : ∀ n, anyIn bc n = decide (hold b n ≠ hold c n) := fun n => by
    rw [anyIn_iff m3.1, h3]; by_cases x : hold b n = hold c n <;> simp [x]
  have A4 : ∀ n, anyIn ac n = decide (hold a n ≠ hold c n) := fun n => by
    rw [anyIn_iff m4.1, h4]; by_cases x : hold a n = hold c n <;> simp [x]
  obtain ⟨K, hK, ca, cb⟩ : ∃ K : List Int, K.length ≤ 41 ∧ CK K a ∧ CK K b := by
    obtain ⟨a1, Ka, ka1, ka2⟩ := a_mk
    obtain ⟨b1, Kb, kb1, kb2⟩ := b_mk
    exact ⟨Ka ++ Kb, by simp; omega, ⟨a1, ka2.mono (fun x hx => by simp [hx])⟩, ⟨b1, kb2.mono (fun x hx => by simp [hx])⟩⟩
  have cab : CK K ab := ⟨m1.1, cut_of (g := diffG) m1.1 ca.1 cb.1 ca.2 cb.2 h1⟩
  have hRM : ab.map rngOf = ba.map rngOf := by rw [s1]
  have E1 := Lib.hid e1
  have E2 := Lib.hid e2
  have E3 := Lib.hid e3
  have E4 := Lib.hid e4
  have RM := Lib.hid hRM
  have H1 := Lib.hid A1
  have H3 := Lib.hid A3
  have H4 := Lib.hid A4
  have CA := Lib.hid ca
  have CB := Lib.hid cb
  have CAB := Lib.hid cab
  have AV := Lib.hid (a_mk.valid (by omega))
  have BV := Lib.hid (b_mk.valid (by omega))
  have CV := Lib.hid (c_mk.valid (by omega))
  have MA := Lib.hid a_mk.1
  have MC := Lib.hid c_mk.1
  have hl1 : ab.length ≤ 1000 := by have := cab.len hK; omega
  clear e1 e2 e3 e4 hRM A1 A3 A4 ca cb cab s1 h1 h2 h3 h4 z1 z2 z3 z4 m1 m2 m3 m4 a_mk b_mk c_mk
  obtain ⟨W0, hW0⟩ : ∃ W0, W0 = w := ⟨_, rfl⟩
  have HSX : Hid (Span W0 W0.heap.size 3 Ax xs.length (tcs xs)) := Lib.hid (by rw [hW0]; exact hSx)
  have HSY : Hid (Span W0 W0.heap.size 3 Ay ys.length (tcs ys)) := Lib.hid (by rw [hW0]; exact hSy)
  have HSZ : Hid (Span W0 W0.heap.size 3 Az zs.length (tcs zs)) := Lib.hid (by rw [hW0]; exact hSz)
  subst hW0
  have HW := Lib.hid (Below.refl W0.heap.size W0)
  have TX := Lib.hid hax
  have TY := Lib.hid hay
  have TZ := Lib.hid haz
  clear hSx hSy hSz hax hay haz
  go_enter Try.func9, Try.ntmps9
  go_wp2_with fail
  refine (sane_any _).mono ?_
  rintro e W1 ⟨rfl, hb⟩
  replace HW := Lib.hid (below_trans HW.out hb)
  replace HSX := Lib.hid ((HSX.out.below hb (Nat.le_refl _)).mono hb.size)
  replace HSY := Lib.hid ((HSY.out.below hb (Nat.le_refl _)).mono hb.size)
  replace HSZ := Lib.hid ((HSZ.out.below hb (Nat.le_refl _)).mono hb.size)
  clear hb
  go_upto_region 4 with fail
  go_cut [12] (fun v wx => HoldsB wx wx.heap.size v a ∧ Below W1.heap.size W1 wx)
  case first =>
    by_cases hmin : xs.length ≤ 8
    · go_wp2_with fail
      refine (madeK_any 8 xs.length Ax cx xs W1 (by omega) (by omega) HSX.out TX.out).mono ?_
      rintro e wq ⟨⟨vq, rfl, hq⟩, hbq⟩
      go_wp2_with fail
      go_meet
      exact ⟨by rw [HA.out]; exact hq, hbq⟩
    · go_wp2_with fail
      refine (madeK_any 8 8 Ax cx xs W1 (by omega) (by omega) HSX.out TX.out).mono ?_
      rintro e wq ⟨⟨vq, rfl, hq⟩, hbq⟩
      go_wp2_with fail
      go_meet
      exact ⟨by rw [HA.out]; exact hq, hbq⟩
  obtain ⟨h1, hb⟩ := hcut
  obtain ⟨W2, hnew⟩ : ∃ W, W = wc := ⟨_, rfl⟩
  subst hnew
  clear HSX
  replace HW := Lib.hid (below_trans HW.out hb)
  replace HSY := Lib.hid ((HSY.out.below hb (Nat.le_refl _)).mono hb.size)
  replace HSZ := Lib.hid ((HSZ.out.below hb (Nat.le_refl _)).mono hb.size)
  clear hb
  have Ha := Lib.hid h1
  clear h1
  go_upto_region 5 with fail
  go_cut [13] (fun v wx => HoldsB wx wx.heap.size v b ∧ Below W2.heap.size W2 wx)
  case first =>
    by_cases hmin : ys.length ≤ 8
    · go_wp2_with fail
      refine (madeK_any 8 ys.length Ay cy ys W2 (by omega) (by omega) HSY.out TY.out).mono ?_
      rintro e wq ⟨⟨vq, rfl, hq⟩, hbq⟩
      go_wp2_with fail
      go_meet
      exact ⟨by rw [HB.out]; exact hq, hbq⟩
    · go_wp2_with fail
      refine (madeK_any 8 8 Ay cy ys W2 (by omega) (by omega) HSY.out TY.out).mono ?_
      rintro e wq ⟨⟨vq, rfl, hq⟩, hbq⟩
      go_wp2_with fail
      go_meet
      exact ⟨by rw [HB.out]; exact hq, hbq⟩
  obtain ⟨h1, hb⟩ := hcut
  obtain ⟨W3, hnew⟩ : ∃ W, W = wc := ⟨_, rfl⟩
  subst hnew
  clear HSY
  replace HW := Lib.hid (below_trans HW.out hb)
  replace HSZ := Lib.hid ((HSZ.out.below hb (Nat.le_refl _)).mono hb.size)
  replace Ha := Lib.hid (Ha.out.later hb)
  clear hb
  have Hb := Lib.hid h1
  clear h1
  go_upto_region 6 with fail
  go_cut [14] (fun v wx => HoldsB wx wx.heap.size v c ∧ Below W3.heap.size W3 wx)
  case first =>
    by_cases hmin : zs.length ≤ 8
    · go_wp2_with fail
      refine (madeK_any 8 zs.length Az cz zs W3 (by omega) (by omega) HSZ.out TZ.out).mono ?_
      rintro e wq ⟨⟨vq, rfl, hq⟩, hbq⟩
      go_wp2_with fail
      go_meet
      exact ⟨by rw [HC.out]; exact hq, hbq⟩
    · go_wp2_with fail
      refine (madeK_any 8 8 Az cz zs W3 (by omega) (by omega) HSZ.out TZ.out).mono ?_
      rintro e wq ⟨⟨vq, rfl, hq⟩, hbq⟩
      go_wp2_with fail
      go_meet
      exact ⟨by rw [HC.out]; exact hq, hbq⟩
  obtain ⟨h1, hb⟩ := hcut
  obtain ⟨W4, hnew⟩ : ∃ W, W = wc := ⟨_, rfl⟩
  subst hnew
  clear HSZ
  replace HW := Lib.hid (below_trans HW.out hb)
  replace Ha := Lib.hid (Ha.out.later hb)
  replace Hb := Lib.hid (Hb.out.later hb)
  clear hb
  have Hc := Lib.hid h1
  clear h1
  go_wp2_with fail
  refine (differ_any _ _ a b _ Ha.out Hb.out).mono ?_
  rw [E1.out]
  rintro e W5 ⟨v1, rfl, h1, hb⟩
  dsimp only at h1 ⊢
  replace HW := Lib.hid (below_trans HW.out hb)
  replace Ha := Lib.hid (Ha.out.later hb)
  replace Hb := Lib.hid (Hb.out.later hb)
  replace Hc := Lib.hid (Hc.out.later hb)
  clear hb
  have Dab := Lib.hid h1
  clear h1
  go_wp2_with fail
  refine (differ_any _ _ b a _ Hb.out Ha.out).mono ?_
  rw [E2.out]
  rintro e W6 ⟨v2, rfl, h1, hb⟩
  dsimp only at h1 ⊢
  replace HW := Lib.hid (below_trans HW.out hb)
  replace Ha := Lib.hid (Ha.out.later hb)
  replace Hb := Lib.hid (Hb.out.later hb)
  replace Hc := Lib.hid (Hc.out.later hb)
  replace Dab := Lib.hid (Dab.out.later hb)
  clear hb
  have Dba := Lib.hid h1
  clear h1
  go_wp2_with fail
  refine (differ_any _ _ b c _ Hb.out Hc.out).mono ?_
  rw [E3.out]
  rintro e W7 ⟨v3, rfl, h1, hb⟩
  dsimp only at h1 ⊢
  replace HW := Lib.hid (below_trans HW.out hb)
  replace Ha := Lib.hid (Ha.out.later hb)
  replace Hb := Lib.hid (Hb.out.later hb)
  replace Hc := Lib.hid (Hc.out.later hb)
  replace Dab := Lib.hid (Dab.out.later hb)
  replace Dba := Lib.hid (Dba.out.later hb)
  clear hb
  have Dbc := Lib.hid h1
  clear h1
  go_wp2_with fail
  refine (differ_any _ _ a c _ Ha.out Hc.out).mono ?_
  rw [E4.out]
  rintro e W8 ⟨v4, rfl, h1, hb⟩
  dsimp only at h1 ⊢
  replace HW := Lib.hid (below_trans HW.out hb)
  replace Ha := Lib.hid (Ha.out.later hb)
  replace Hb := Lib.hid (Hb.out.later hb)
  replace Hc := Lib.hid (Hc.out.later hb)
  replace Dab := Lib.hid (Dab.out.later hb)
  replace Dba := Lib.hid (Dba.out.later hb)
  replace Dbc := Lib.hid (Dbc.out.later hb)
  clear hb
  have Dac := Lib.hid h1
  clear h1
  go_wp2_with fail
  refine (sameR_any _ _ ab ba _ Dab.out Dba.out).mono ?_
  rintro e W9 ⟨rfl, hb⟩
  rw [decide_eq_true RM.out]
  replace HW := Lib.hid (below_trans HW.out hb)
  replace Ha := Lib.hid (Ha.out.later hb)
  replace Hb := Lib.hid (Hb.out.later hb)
  replace Hc := Lib.hid (Hc.out.later hb)
  replace Dab := Lib.hid (Dab.out.later hb)
  replace Dba := Lib.hid (Dba.out.later hb)
  replace Dbc := Lib.hid (Dbc.out.later hb)
  replace Dac := Lib.hid (Dac.out.later hb)
  clear hb
  clear Dba
  obtain ⟨k0, hk0⟩ : ∃ x, x = nearV a which n := ⟨_, rfl⟩
  have K0 := Lib.hid hk0
  obtain ⟨k1, hk1⟩ : ∃ x, x = nearV c which n := ⟨_, rfl⟩
  have K1 := Lib.hid hk1
  obtain ⟨k2, hk2⟩ : ∃ x, x = pickV n 100000000 := ⟨_, rfl⟩
  have K2 := Lib.hid hk2
  clear hk0 hk1 hk2
  go_wp2_with fail
  refine (near_any _ a which n _ Ha.out AV.out hwh hn).mono ?_
  rintro e W10 ⟨rfl, hb⟩
  rw [← K0.out]
  replace HW := Lib.hid (below_trans HW.out hb)
  replace Ha := Lib.hid (Ha.out.later hb)
  replace Hb := Lib.hid (Hb.out.later hb)
  replace Hc := Lib.hid (Hc.out.later hb)
  replace Dab := Lib.hid (Dab.out.later hb)
  replace Dbc := Lib.hid (Dbc.out.later hb)
  replace Dac := Lib.hid (Dac.out.later hb)
  clear hb
  go_wp2_with fail
  refine (near_any _ c which n _ Hc.out CV.out hwh hn).mono ?_
  rintro e W11 ⟨rfl, hb⟩
  rw [← K1.out]
  replace HW := Lib.hid (below_trans HW.out hb)
  replace Ha := Lib.hid (Ha.out.later hb)
  replace Hb := Lib.hid (Hb.out.later hb)
  replace Hc := Lib.hid (Hc.out.later hb)
  replace Dab := Lib.hid (Dab.out.later hb)
  replace Dbc := Lib.hid (Dbc.out.later hb)
  replace Dac := Lib.hid (Dac.out.later hb)
  clear hb
  clear Hc
  go_wp2_with fail
  refine (pick_any n 100000000 _ hn (by decide) (by decide)).mono ?_
  rintro e wq ⟨rfl, rfl⟩
  rw [← K2.out]
  go_wp2_with fail
  obtain ⟨W12, hnew⟩ : ∃ W, W = W11.alloc (.cells #[.int .i64 k0, .int .i64 k1, .int .i64 k2] 3) := ⟨_, rfl⟩
  rw [← hnew]
  have CK3 : Hid (W12.heap[W11.heap.size]? = some (.cells #[.int .i64 k0, .int .i64 k1, .int .i64 k2] 3)) := Lib.hid (by rw [hnew]; exact new_heap _ _)
  have hb : Below W11.heap.size W11 W12 := by rw [hnew]; exact below_al _ _
  clear hnew
  replace HW := Lib.hid (below_trans HW.out hb)
  replace Ha := Lib.hid (Ha.out.later hb)
  replace Hb := Lib.hid (Hb.out.later hb)
  replace Dab := Lib.hid (Dab.out.later hb)
  replace Dbc := Lib.hid (Dbc.out.later hb)
  replace Dac := Lib.hid (Dac.out.later hb)
  clear hb
  go_loopw [110] (fun i wr => ∃ j : Nat, j ≤ 3 ∧ i = .int .i64 j ∧ Below W12.heap.size W12 wr) (fun i _ => 3 - (intOf i).toNat)
  case atStart => exact ⟨0, by omega, rfl, Below.refl _ _⟩
  obtain ⟨j, hj, rfl, hbr⟩ := hrel
  by_cases hj5 : j < 3
  · have ck : ∃ k : Int, (#[.int .i64 k0, .int .i64 k1, .int .i64 k2] : Array Value)[j]? = some (.int .i64 k) := by
      match j, hj5 with
      | 0, _ => exact ⟨_, rfl⟩
      | 1, _ => exact ⟨_, rfl⟩
      | 2, _ => exact ⟨_, rfl⟩
    obtain ⟨k, hk⟩ := ck
    have cell : wr.cell? ⟨W11.heap.size, j, none⟩ = some (.int .i64 k) := by
      have h := (hbr.block _ (Array.getElem?_eq_some_iff.1 CK3.out).1).trans CK3.out
      simp only [World.cell?, h]; exact hk
    obtain ⟨Y0, hY0⟩ : ∃ Y, Y = wr := ⟨_, rfl⟩
    subst hY0
    clear HW hk
    have HW := Lib.hid hbr
    have Yab := Lib.hid (Dab.out.later hbr)
    have Ybc := Lib.hid (Dbc.out.later hbr)
    have Yac := Lib.hid (Dac.out.later hbr)
    clear hbr
    have z0 : (0 : Int) ≤ (j : Int) := by omega
    have z1 : (j : Int) < 3 := by omega
    by_cases q1 : hold a k = hold c k
    · have T4 := Lib.hid (show anyIn ac k = false by rw [H4.out]; simp [q1])
      clear q1
      go_wp2_with fail
      refine (differs_any _ ac k _ Yac.out).mono ?_
      rintro e Y1 ⟨rfl, hb⟩
      rw [T4.out]
      replace HW := Lib.hid (below_trans HW.out hb)
      replace Yab := Lib.hid (Yab.out.later hb)
      replace Ybc := Lib.hid (Ybc.out.later hb)
      replace Yac := Lib.hid (Yac.out.later hb)
      clear hb
      go_wp2_with fail
      exact ⟨⟨j + 1, by omega, by go_num, HW.out⟩, by simp [intOf]; omega⟩
    · have T4 := Lib.hid (show anyIn ac k = true by rw [H4.out]; simp [q1])
      by_cases q2 : hold a k = hold b k
      · have T1 := Lib.hid (show anyIn ab k = false by rw [H1.out]; simp [q2])
        have T3 := Lib.hid (show anyIn bc k = true by rw [H3.out]; simp; intro e; exact q1 (q2.trans e))
        clear q1 q2
        go_wp2_with fail
        refine (differs_any _ ac k _ Yac.out).mono ?_
        rintro e Y1 ⟨rfl, hb⟩
        rw [T4.out]
        replace HW := Lib.hid (below_trans HW.out hb)
        replace Yab := Lib.hid (Yab.out.later hb)
        replace Ybc := Lib.hid (Ybc.out.later hb)
        replace Yac := Lib.hid (Yac.out.later hb)
        clear hb
        go_wp2_with fail
        refine (differs_any _ ab k _ Yab.out).mono ?_
        rintro e Y2 ⟨rfl, hb⟩
        rw [T1.out]
        replace HW := Lib.hid (below_trans HW.out hb)
        replace Yab := Lib.hid (Yab.out.later hb)
        replace Ybc := Lib.hid (Ybc.out.later hb)
        replace Yac := Lib.hid (Yac.out.later hb)
        clear hb
        go_wp2_with fail
        refine (differs_any _ bc k _ Ybc.out).mono ?_
        rintro e Y3 ⟨rfl, hb⟩
        rw [T3.out]
        replace HW := Lib.hid (below_trans HW.out hb)
        replace Yab := Lib.hid (Yab.out.later hb)
        replace Ybc := Lib.hid (Ybc.out.later hb)
        replace Yac := Lib.hid (Yac.out.later hb)
        clear hb
        go_wp2_with fail
        exact ⟨⟨j + 1, by omega, by go_num, HW.out⟩, by simp [intOf]; omega⟩
      · have T1 := Lib.hid (show anyIn ab k = true by rw [H1.out]; simp [q2])
        clear q1 q2
        go_wp2_with fail
        refine (differs_any _ ac k _ Yac.out).mono ?_
        rintro e Y1 ⟨rfl, hb⟩
        rw [T4.out]
        replace HW := Lib.hid (below_trans HW.out hb)
        replace Yab := Lib.hid (Yab.out.later hb)
        replace Ybc := Lib.hid (Ybc.out.later hb)
        replace Yac := Lib.hid (Yac.out.later hb)
        clear hb
        go_wp2_with fail
        refine (differs_any _ ab k _ Yab.out).mono ?_
        rintro e Y2 ⟨rfl, hb⟩
        rw [T1.out]
        replace HW := Lib.hid (below_trans HW.out hb)
        replace Yab := Lib.hid (Yab.out.later hb)
        replace Ybc := Lib.hid (Ybc.out.later hb)
        replace Yac := Lib.hid (Yac.out.later hb)
        clear hb
        go_wp2_with fail
        exact ⟨⟨j + 1, by omega, by go_num, HW.out⟩, by simp [intOf]; omega⟩
  obtain ⟨W13, hnew⟩ : ∃ W, W = wr := ⟨_, rfl⟩
  subst hnew
  have hb := hbr
  clear hbr
  clear Dbc Dac CK3
  replace HW := Lib.hid (below_trans HW.out hb)
  replace Ha := Lib.hid (Ha.out.later hb)
  replace Hb := Lib.hid (Hb.out.later hb)
  replace Dab := Lib.hid (Dab.out.later hb)
  clear hb
  go_wp2_with fail
  obtain ⟨Aab, cab, hvab, hc0, hc1, hsp⟩ := Dab.out
  subst hvab
  have SPD := Lib.hid hsp
  unfold maxLen at hc1
  clear hsp
  go_loopw [25, 26] (fun o i wr => ∃ (j : Nat) (L : List B3), j ≤ ab.length ∧ i = .int .i64 j ∧ HoldsB wr wr.heap.size o L ∧ CK K L ∧ (∀ n, hold L n = if anyIn (ab.take j) n = true then hold b n else hold a n) ∧ Below W13.heap.size W13 wr) (fun _ i _ => ab.length - (intOf i).toNat)
  case atStart => exact ⟨0, a, by omega, rfl, Ha.out, CA.out, fun n => by simp [anyIn], Below.refl _ _⟩
  obtain ⟨jj, L, hj2, rfl, ho, hckL, hL, hbr⟩ := hrel
  by_cases hjn : jj < ab.length
  · obtain ⟨x, hx⟩ : ∃ x, x = ab[jj] := ⟨_, rfl⟩
    have hrx := canon_rng CAB.out.1 ab[jj] (List.getElem_mem hjn)
    have hcut := CAB.out.2 ab[jj] (List.getElem_mem hjn)
    have hany : ∀ n, anyIn (ab.take (jj + 1)) n = (anyIn (ab.take jj) n || inR x.f x.t n) := fun n => by
      rw [List.take_succ_eq_append_getElem hjn, ← hx]; simp [anyIn]
    rw [← hx] at hrx hcut
    have hr9 : rngB x.f x.t = true := rngB_iff.2 hrx
    obtain ⟨le, e1, m1, h1⟩ := take_ck hckL hK hr9 hcut.1 hcut.2
    obtain ⟨pa, e2, m2, h2⟩ := only_ck CB.out hK hr9 hcut.1 hcut.2
    obtain ⟨ne, e3, m3, h3⟩ := overlay_ck m1 m2 hK
    have hne : ∀ n, hold ne n = if anyIn (ab.take (jj + 1)) n = true then hold b n else hold a n := fun n => by
      rw [h3, h2, h1, hL, hany]
      by_cases q : x.f ≤ n ∧ n < x.t
      · have e : inR x.f x.t n = true := by simp [inR, q]
        rw [e, if_pos q, if_pos q, Bool.or_true, if_pos rfl]
        split <;> simp_all
      · have e : inR x.f x.t n = false := by simp [inR]; omega
        rw [e, if_neg q, if_neg q, Bool.or_false, if_pos rfl]
    have F1 := Lib.hid e1
    have F2 := Lib.hid e2
    have F3 := Lib.hid e3
    have HNE := Lib.hid hne
    have M3 := Lib.hid m3
    obtain ⟨Y0, hY0⟩ : ∃ Y, Y = wr := ⟨_, rfl⟩
    subst hY0
    clear HW
    have HW := Lib.hid hbr
    have Yo := Lib.hid ho
    have Yb := Lib.hid (Hb.out.later hbr)
    have HK : Hid (∀ W', Below Y0.heap.size Y0 W' → ∃ ad, Aab = some ad ∧ W'.cell? (ad.add (jj * 2)) = some (.int .i64 x.f) ∧ W'.cell? ⟨(ad.add (jj * 2)).block, (ad.add (jj * 2)).off + 1, none⟩ = some (.int .i64 x.t)) := Lib.hid fun W' hb' => by
      obtain ⟨ad, e, _, x0, x1⟩ := span_rng (SPD.out.below (hbr.trans (hb'.mono hbr.size)) (Nat.le_refl _)) (List.getElem?_eq_getElem hjn)
      rw [← hx] at x0 x1
      exact ⟨ad, e, x0, x1⟩
    obtain ⟨ad, had, x0, x1⟩ := HK.out Y0 (Below.refl _ _)
    have HAD := Lib.hid had
    subst had
    clear hx hany hrx hcut hr9 e1 e2 e3 m1 m2 m3 h1 h2 h3 hne hbr ho hL hckL
    have z0 : (0 : Int) ≤ (jj : Int) := by omega
    have z1 : (jj : Int) < (ab.length : Int) := by omega
    go_wp2_with fail
    refine (take_any _ L x.f x.t _ Yo.out).mono ?_
    rw [F1.out]
    rintro e Y1 ⟨v1, rfl, h1, hb⟩
    dsimp only at h1 ⊢
    obtain ⟨ad1, had1, y0, y1⟩ := HK.out Y1 hb
    cases had1
    clear x0 x1
    replace HW := Lib.hid (below_trans HW.out hb)
    replace Yo := Lib.hid (Yo.out.later hb)
    replace Yb := Lib.hid (Yb.out.later hb)
    clear hb
    have Yl := Lib.hid h1
    clear h1
    go_wp2_with fail
    refine (only_any _ b x.f x.t _ Yb.out).mono ?_
    rw [F2.out]
    rintro e Y2 ⟨v2, rfl, h1, hb⟩
    dsimp only at h1 ⊢
    clear y0 y1
    replace HW := Lib.hid (below_trans HW.out hb)
    replace Yo := Lib.hid (Yo.out.later hb)
    replace Yb := Lib.hid (Yb.out.later hb)
    replace Yl := Lib.hid (Yl.out.later hb)
    clear hb
    have Yp := Lib.hid h1
    clear h1
    go_wp2_with fail
    refine (overlay_any _ _ le pa _ Yl.out Yp.out).mono ?_
    rw [F3.out]
    rintro e Y3 ⟨v3, rfl, h1, hb⟩
    dsimp only at h1 ⊢
    replace HW := Lib.hid (below_trans HW.out hb)
    replace Yo := Lib.hid (Yo.out.later hb)
    replace Yb := Lib.hid (Yb.out.later hb)
    replace Yl := Lib.hid (Yl.out.later hb)
    replace Yp := Lib.hid (Yp.out.later hb)
    clear hb
    have Yn := Lib.hid h1
    clear h1
    go_wp2_with fail
    exact ⟨⟨jj + 1, ne, by omega, by go_num, Yn.out, M3.out, HNE.out, HW.out⟩, by simp [intOf]; omega⟩
  rw [List.take_of_length_le (by omega)] at hL
  have hLb : L = b := same_hold hckL.1 CB.out.1 fun n => by
    rw [hL, H1.out]
    by_cases q : hold a n = hold b n <;> simp [q]
  have LB := Lib.hid hLb
  clear hL hLb hckL
  have hbx := Hb.out.later hbr
  have Yo := Lib.hid ho
  have Yb := Lib.hid hbx
  have hw2 := below_trans HW.out hbr
  clear ho hbx hbr
  go_wp2_with fail
  refine (same_any _ _ L b _ Yo.out Yb.out).mono ?_
  rintro e wq ⟨rfl, hb⟩
  rw [decide_eq_true LB.out]
  go_wp2_with fail
  go_ret
  exact ⟨rfl, below_trans hw2 hb⟩
end Go.Proofs.Ytmgippddljmfjaa
