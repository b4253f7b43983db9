/-
  The contract of the law BlockOverlays: it returns true.
-/
import Derived.Test.YtmgippddljmfjaaWalk23
namespace Go.Proofs.Ytmgippddljmfjaa
open Go Go.RowKit Go.Dial Go.Dial.Blk

set_option maxRecDepth 100000 in
set_option maxHeartbeats 8000000 in
theorem law7_any (Ax Ay Az : Option Addr) (cx cy cz : Nat) (xs ys zs : List (Int × Int × Int)) (r0 r1 : Int) (w : World) (hSx : Span w w.heap.size 3 Ax xs.length (tcs xs)) (hSy : Span w w.heap.size 3 Ay ys.length (tcs ys)) (hSz : Span w w.heap.size 3 Az zs.length (tcs zs))
    (hb : (∀ x ∈ xs, Tri x) ∧ (∀ x ∈ ys, Tri x) ∧ (∀ x ∈ zs, Tri x) ∧ I64 r0 ∧ I64 r1 ∧ xs.length ≤ cx ∧ ys.length ≤ cy ∧ zs.length ≤ cz ∧ cx ≤ maxLen ∧ cy ≤ maxLen ∧ cz ≤ maxLen) :
    Calls Try.prog 7 #[.slice Ax xs.length cx, .slice Ay ys.length cy, .slice Az zs.length cz, .agg #[.int .i64 r0, .int .i64 r1]] w fun e w' => e = .returned (.bool true) ∧ Below w.heap.size w w' := by
  obtain ⟨hax, hay, haz, hr0, hr1, hcx, hcy, hcz, hmx, hmy, hmz⟩ := hb
  unfold maxLen at hmx hmy hmz
  have a_mk := madeK_mk 8 xs
  obtain ⟨a, ha⟩ : ∃ A, A = madeV (xs.take 8) := ⟨_, rfl⟩
  rw [← ha] at a_mk
  have HA := Lib.hid ha
  have b_mk := madeK_mk 5 ys
  obtain ⟨b, hb⟩ : ∃ A, A = madeV (ys.take 5) := ⟨_, rfl⟩
  rw [← hb] at b_mk
  have HB := Lib.hid hb
  have c_mk := madeK_mk 5 zs
  obtain ⟨c, hc⟩ : ∃ A, A = madeV (zs.take 5) := ⟨_, rfl⟩
  rw [← hc] at c_mk
  have HC := Lib.hid hc
  have P_rng := piece_rng r0 r1
  obtain ⟨⟨p, p'⟩, hp⟩ : ∃ p, p = pieceV r0 r1 := ⟨_, rfl⟩
  rw [← hp] at P_rng
  have HP := Lib.hid hp
  dsimp only at P_rng
  clear ha hb hc hp
  obtain ⟨ab, e1, m1, h1⟩ := overlay_mk a_mk b_mk (by omega)
  obtain ⟨abc, e2, m2, h2⟩ := overlay_mk m1 c_mk (by omega)
  obtain ⟨bc, e3, m3, h3⟩ := overlay_mk b_mk c_mk (by omega)
  obtain ⟨ri, e4, m4, h4⟩ := overlay_mk a_mk m3 (by omega)
  obtain ⟨se, e5, m5, h5⟩ := overlay_mk a_mk a_mk (by omega)
  obtain ⟨le, e6, m6, h6⟩ := take_mk a_mk (by omega) P_rng
  obtain ⟨pa, e7, m7, h7⟩ := only_mk a_mk (by omega) P_rng
  obtain ⟨ba, e8, m8, h8⟩ := overlay_mk m6 m7 (by omega)
  obtain ⟨ag, e9, m9, h9⟩ := overlay_mk m7 m6 (by omega)
  have s1 : abc = ri := same_hold m2.1 m4.1 fun n => by rw [h2, h1, h4, h3]; by_cases x : hold c n = -1 <;> by_cases y : hold b n = -1 <;> simp [x, y]
  have s2 : se = a := same_hold m5.1 a_mk.1 fun n => by rw [h5]; split <;> rfl
  have s3 : ba = a := same_hold m8.1 a_mk.1 fun n => by rw [h8, h7, h6]; by_cases x : p ≤ n ∧ n < p' <;> by_cases y : hold a n = -1 <;> simp [x, y]
  have s4 : ag = a := same_hold m9.1 a_mk.1 fun n => by rw [h9, h7, h6]; by_cases x : p ≤ n ∧ n < p' <;> by_cases y : hold a n = -1 <;> simp [x, y]
  have E1 := Lib.hid e1
  have E2 := Lib.hid e2
  have E3 := Lib.hid e3
  have E4 := Lib.hid e4
  have E5 := Lib.hid e5
  have E6 := Lib.hid e6
  have E7 := Lib.hid e7
  have E8 := Lib.hid e8
  have E9 := Lib.hid e9
  have S1 := Lib.hid s1
  have S2 := Lib.hid s2
  have S3 := Lib.hid s3
  have S4 := Lib.hid s4
  clear e1 e2 e3 e4 e5 e6 e7 e8 e9 s1 s2 s3 s4 h1 h2 h3 h4 h5 h6 h7 h8 h9 m1 m2 m3 m4 m5 m6 m7 m8 m9 a_mk b_mk c_mk P_rng
  obtain ⟨W0, hW0⟩ : ∃ W0, W0 = w.alloc (.cells #[.int .i64 r0, .int .i64 r1] 35) := ⟨_, rfl⟩
  have C7 : Hid (W0.heap[w.heap.size]? = some (.cells #[.int .i64 r0, .int .i64 r1] 35)) := Lib.hid (by rw [hW0]; exact new_heap _ _)
  have hb0 : Below w.heap.size w W0 := by rw [hW0]; exact below_al _ _
  have HSX : Hid (Span W0 W0.heap.size 3 Ax xs.length (tcs xs)) := Lib.hid ((hSx.below hb0 (Nat.le_refl _)).mono hb0.size)
  have HSY : Hid (Span W0 W0.heap.size 3 Ay ys.length (tcs ys)) := Lib.hid ((hSy.below hb0 (Nat.le_refl _)).mono hb0.size)
  have HSZ : Hid (Span W0 W0.heap.size 3 Az zs.length (tcs zs)) := Lib.hid ((hSz.below hb0 (Nat.le_refl _)).mono hb0.size)
  have HW := Lib.hid hb0
  have HWS := Lib.hid hW0
  have TX := Lib.hid hax
  have TY := Lib.hid hay
  have TZ := Lib.hid haz
  clear hb0 hSx hSy hSz hax hay haz
  go_enter Try.func7, Try.ntmps7
  go_wp2_with fail
  rw [← HWS.out]
  clear hW0
  refine (sane_any _).mono ?_
  rintro e W1 ⟨rfl, hb⟩
  replace HW := Lib.hid (below_trans HW.out hb)
  replace C7 := Lib.hid (cell_keep C7.out hb)
  replace HSX := Lib.hid ((HSX.out.below hb (Nat.le_refl _)).mono hb.size)
  replace HSY := Lib.hid ((HSY.out.below hb (Nat.le_refl _)).mono hb.size)
  replace HSZ := Lib.hid ((HSZ.out.below hb (Nat.le_refl _)).mono hb.size)
  clear hb
  obtain ⟨C7_0, C7_1, C7_2⟩ := cell2 C7.out
  go_upto_region 4 with fail
  go_cut [10] (fun v wx => HoldsB wx wx.heap.size v a ∧ Below W1.heap.size W1 wx)
  case first =>
    by_cases hmin : xs.length ≤ 8
    · go_wp2_with fail
      refine (madeK_any 8 xs.length Ax cx xs W1 (by omega) (by omega) HSX.out TX.out).mono ?_
      rintro e wq ⟨⟨vq, rfl, hq⟩, hbq⟩
      go_wp2_with fail
      go_meet
      exact ⟨by rw [HA.out]; exact hq, hbq⟩
    · go_wp2_with fail
      refine (madeK_any 8 8 Ax cx xs W1 (by omega) (by omega) HSX.out TX.out).mono ?_
      rintro e wq ⟨⟨vq, rfl, hq⟩, hbq⟩
      go_wp2_with fail
      go_meet
      exact ⟨by rw [HA.out]; exact hq, hbq⟩
  clear C7_0 C7_1 C7_2
  obtain ⟨h1, hb⟩ := hcut
  obtain ⟨W2, hnew⟩ : ∃ W, W = wc := ⟨_, rfl⟩
  subst hnew
  clear HSX
  replace HW := Lib.hid (below_trans HW.out hb)
  replace C7 := Lib.hid (cell_keep C7.out hb)
  replace HSY := Lib.hid ((HSY.out.below hb (Nat.le_refl _)).mono hb.size)
  replace HSZ := Lib.hid ((HSZ.out.below hb (Nat.le_refl _)).mono hb.size)
  clear hb
  have Ha := Lib.hid h1
  clear h1
  obtain ⟨C7_0, C7_1, C7_2⟩ := cell2 C7.out
  go_upto_region 5 with fail
  go_cut [11] (fun v wx => HoldsB wx wx.heap.size v b ∧ Below W2.heap.size W2 wx)
  case first =>
    by_cases hmin : ys.length ≤ 5
    · go_wp2_with fail
      refine (madeK_any 5 ys.length Ay cy ys W2 (by omega) (by omega) HSY.out TY.out).mono ?_
      rintro e wq ⟨⟨vq, rfl, hq⟩, hbq⟩
      go_wp2_with fail
      go_meet
      exact ⟨by rw [HB.out]; exact hq, hbq⟩
    · go_wp2_with fail
      refine (madeK_any 5 5 Ay cy ys W2 (by omega) (by omega) HSY.out TY.out).mono ?_
      rintro e wq ⟨⟨vq, rfl, hq⟩, hbq⟩
      go_wp2_with fail
      go_meet
      exact ⟨by rw [HB.out]; exact hq, hbq⟩
  clear C7_0 C7_1 C7_2
  obtain ⟨h1, hb⟩ := hcut
  obtain ⟨W3, hnew⟩ : ∃ W, W = wc := ⟨_, rfl⟩
  subst hnew
  clear HSY
  replace HW := Lib.hid (below_trans HW.out hb)
  replace C7 := Lib.hid (cell_keep C7.out hb)
  replace HSZ := Lib.hid ((HSZ.out.below hb (Nat.le_refl _)).mono hb.size)
  replace Ha := Lib.hid (Ha.out.later hb)
  clear hb
  have Hb := Lib.hid h1
  clear h1
  obtain ⟨C7_0, C7_1, C7_2⟩ := cell2 C7.out
  go_upto_region 6 with fail
  go_cut [12] (fun v wx => HoldsB wx wx.heap.size v c ∧ Below W3.heap.size W3 wx)
  case first =>
    by_cases hmin : zs.length ≤ 5
    · go_wp2_with fail
      refine (madeK_any 5 zs.length Az cz zs W3 (by omega) (by omega) HSZ.out TZ.out).mono ?_
      rintro e wq ⟨⟨vq, rfl, hq⟩, hbq⟩
      go_wp2_with fail
      go_meet
      exact ⟨by rw [HC.out]; exact hq, hbq⟩
    · go_wp2_with fail
      refine (madeK_any 5 5 Az cz zs W3 (by omega) (by omega) HSZ.out TZ.out).mono ?_
      rintro e wq ⟨⟨vq, rfl, hq⟩, hbq⟩
      go_wp2_with fail
      go_meet
      exact ⟨by rw [HC.out]; exact hq, hbq⟩
  clear C7_0 C7_1 C7_2
  obtain ⟨h1, hb⟩ := hcut
  obtain ⟨W4, hnew⟩ : ∃ W, W = wc := ⟨_, rfl⟩
  subst hnew
  clear HSZ
  replace HW := Lib.hid (below_trans HW.out hb)
  replace C7 := Lib.hid (cell_keep C7.out hb)
  replace Ha := Lib.hid (Ha.out.later hb)
  replace Hb := Lib.hid (Hb.out.later hb)
  clear hb
  have Hc := Lib.hid h1
  clear h1
  obtain ⟨C7_0, C7_1, C7_2⟩ := cell2 C7.out
  go_wp2_with fail
  refine (piece_any r0 r1 _ hr0 hr1).mono ?_
  rintro e W5 ⟨rfl, hb⟩
  clear C7_0 C7_1 C7_2
  replace HW := Lib.hid (below_trans HW.out hb)
  replace C7 := Lib.hid (cell_keep C7.out hb)
  replace Ha := Lib.hid (Ha.out.later hb)
  replace Hb := Lib.hid (Hb.out.later hb)
  replace Hc := Lib.hid (Hc.out.later hb)
  clear hb
  rw [← HP.out]
  dsimp only
  obtain ⟨C7_0, C7_1, C7_2⟩ := cell2 C7.out
  go_wp2_with fail
  obtain ⟨W6, hnew⟩ : ∃ W, W = W5.alloc (.cells #[.int .i64 p, .int .i64 p'] 26) := ⟨_, rfl⟩
  rw [← hnew]
  have C130 := Lib.hid (show W6.heap[W5.heap.size]? = some (.cells #[.int .i64 p, .int .i64 p'] 26) by rw [hnew]; exact new_heap _ _)
  have hb : Below W5.heap.size W5 W6 := by rw [hnew]; exact below_al _ _
  clear hnew C7_0 C7_1 C7_2
  replace HW := Lib.hid (below_trans HW.out hb)
  replace C7 := Lib.hid (cell_keep C7.out hb)
  replace Ha := Lib.hid (Ha.out.later hb)
  replace Hb := Lib.hid (Hb.out.later hb)
  replace Hc := Lib.hid (Hc.out.later hb)
  clear hb
  have C13 := C130
  clear C130
  clear C7
  refine (overlay_any _ _ a b _ Ha.out Hb.out).mono ?_
  rw [E1.out]
  rintro e W7 ⟨v1, rfl, h1, hb⟩
  dsimp only at h1 ⊢
  replace HW := Lib.hid (below_trans HW.out hb)
  replace Ha := Lib.hid (Ha.out.later hb)
  replace Hb := Lib.hid (Hb.out.later hb)
  replace Hc := Lib.hid (Hc.out.later hb)
  replace C13 := Lib.hid (cell_keep C13.out hb)
  clear hb
  have Hab := Lib.hid h1
  clear h1
  obtain ⟨C13_0, C13_1, C13_2⟩ := cell2 C13.out
  go_wp2_with fail
  refine (overlay_any _ _ ab c _ Hab.out Hc.out).mono ?_
  rw [E2.out]
  rintro e W8 ⟨v2, rfl, h1, hb⟩
  clear C13_0 C13_1 C13_2
  dsimp only at h1 ⊢
  replace HW := Lib.hid (below_trans HW.out hb)
  replace Ha := Lib.hid (Ha.out.later hb)
  replace Hb := Lib.hid (Hb.out.later hb)
  replace Hc := Lib.hid (Hc.out.later hb)
  replace C13 := Lib.hid (cell_keep C13.out hb)
  replace Hab := Lib.hid (Hab.out.later hb)
  clear hb
  have Habc := Lib.hid h1
  clear h1
  clear Hab
  obtain ⟨C13_0, C13_1, C13_2⟩ := cell2 C13.out
  go_wp2_with fail
  refine (overlay_any _ _ b c _ Hb.out Hc.out).mono ?_
  rw [E3.out]
  rintro e W9 ⟨v3, rfl, h1, hb⟩
  clear C13_0 C13_1 C13_2
  dsimp only at h1 ⊢
  replace HW := Lib.hid (below_trans HW.out hb)
  replace Ha := Lib.hid (Ha.out.later hb)
  replace Hb := Lib.hid (Hb.out.later hb)
  replace Hc := Lib.hid (Hc.out.later hb)
  replace C13 := Lib.hid (cell_keep C13.out hb)
  replace Habc := Lib.hid (Habc.out.later hb)
  clear hb
  have Hbc := Lib.hid h1
  clear h1
  clear Hb Hc
  obtain ⟨C13_0, C13_1, C13_2⟩ := cell2 C13.out
  go_wp2_with fail
  refine (overlay_any _ _ a bc _ Ha.out Hbc.out).mono ?_
  rw [E4.out]
  rintro e W10 ⟨v4, rfl, h1, hb⟩
  clear C13_0 C13_1 C13_2
  dsimp only at h1 ⊢
  replace HW := Lib.hid (below_trans HW.out hb)
  replace Ha := Lib.hid (Ha.out.later hb)
  replace C13 := Lib.hid (cell_keep C13.out hb)
  replace Habc := Lib.hid (Habc.out.later hb)
  replace Hbc := Lib.hid (Hbc.out.later hb)
  clear hb
  have Hri := Lib.hid h1
  clear h1
  clear Hbc
  obtain ⟨C13_0, C13_1, C13_2⟩ := cell2 C13.out
  go_wp2_with fail
  refine (overlay_any _ _ a a _ Ha.out Ha.out).mono ?_
  rw [E5.out]
  rintro e W11 ⟨v5, rfl, h1, hb⟩
  clear C13_0 C13_1 C13_2
  dsimp only at h1 ⊢
  replace HW := Lib.hid (below_trans HW.out hb)
  replace Ha := Lib.hid (Ha.out.later hb)
  replace C13 := Lib.hid (cell_keep C13.out hb)
  replace Habc := Lib.hid (Habc.out.later hb)
  replace Hri := Lib.hid (Hri.out.later hb)
  clear hb
  have Hse := Lib.hid h1
  clear h1
  obtain ⟨C13_0, C13_1, C13_2⟩ := cell2 C13.out
  go_wp2_with fail
  refine (take_any _ a p p' _ Ha.out).mono ?_
  rw [E6.out]
  rintro e W12 ⟨v6, rfl, h1, hb⟩
  clear C13_0 C13_1 C13_2
  dsimp only at h1 ⊢
  replace HW := Lib.hid (below_trans HW.out hb)
  replace Ha := Lib.hid (Ha.out.later hb)
  replace C13 := Lib.hid (cell_keep C13.out hb)
  replace Habc := Lib.hid (Habc.out.later hb)
  replace Hri := Lib.hid (Hri.out.later hb)
  replace Hse := Lib.hid (Hse.out.later hb)
  clear hb
  have Hle := Lib.hid h1
  clear h1
  obtain ⟨C13_0, C13_1, C13_2⟩ := cell2 C13.out
  go_wp2_with fail
  refine (only_any _ a p p' _ Ha.out).mono ?_
  rw [E7.out]
  rintro e W13 ⟨v7, rfl, h1, hb⟩
  clear C13_0 C13_1 C13_2
  dsimp only at h1 ⊢
  replace HW := Lib.hid (below_trans HW.out hb)
  replace Ha := Lib.hid (Ha.out.later hb)
  replace C13 := Lib.hid (cell_keep C13.out hb)
  replace Habc := Lib.hid (Habc.out.later hb)
  replace Hri := Lib.hid (Hri.out.later hb)
  replace Hse := Lib.hid (Hse.out.later hb)
  replace Hle := Lib.hid (Hle.out.later hb)
  clear hb
  have Hpa := Lib.hid h1
  clear h1
  clear C13
  go_wp2_with fail
  refine (overlay_any _ _ le pa _ Hle.out Hpa.out).mono ?_
  rw [E8.out]
  rintro e W14 ⟨v8, rfl, h1, hb⟩
  dsimp only at h1 ⊢
  replace HW := Lib.hid (below_trans HW.out hb)
  replace Ha := Lib.hid (Ha.out.later hb)
  replace Habc := Lib.hid (Habc.out.later hb)
  replace Hri := Lib.hid (Hri.out.later hb)
  replace Hse := Lib.hid (Hse.out.later hb)
  replace Hle := Lib.hid (Hle.out.later hb)
  replace Hpa := Lib.hid (Hpa.out.later hb)
  clear hb
  have Hba := Lib.hid h1
  clear h1
  go_wp2_with fail
  refine (overlay_any _ _ pa le _ Hpa.out Hle.out).mono ?_
  rw [E9.out]
  rintro e W15 ⟨v9, rfl, h1, hb⟩
  dsimp only at h1 ⊢
  replace HW := Lib.hid (below_trans HW.out hb)
  replace Ha := Lib.hid (Ha.out.later hb)
  replace Habc := Lib.hid (Habc.out.later hb)
  replace Hri := Lib.hid (Hri.out.later hb)
  replace Hse := Lib.hid (Hse.out.later hb)
  replace Hle := Lib.hid (Hle.out.later hb)
  replace Hpa := Lib.hid (Hpa.out.later hb)
  replace Hba := Lib.hid (Hba.out.later hb)
  clear hb
  have Hag := Lib.hid h1
  clear h1
  clear Hle Hpa
  go_wp2_with fail
  refine (same_any _ _ abc ri _ Habc.out Hri.out).mono ?_
  rintro e W16 ⟨rfl, hb⟩
  rw [decide_eq_true S1.out]
  replace HW := Lib.hid (below_trans HW.out hb)
  replace Ha := Lib.hid (Ha.out.later hb)
  replace Habc := Lib.hid (Habc.out.later hb)
  replace Hri := Lib.hid (Hri.out.later hb)
  replace Hse := Lib.hid (Hse.out.later hb)
  replace Hba := Lib.hid (Hba.out.later hb)
  replace Hag := Lib.hid (Hag.out.later hb)
  clear hb
  go_wp2_with fail
  refine (same_any _ _ se a _ Hse.out Ha.out).mono ?_
  rintro e W17 ⟨rfl, hb⟩
  rw [decide_eq_true S2.out]
  replace HW := Lib.hid (below_trans HW.out hb)
  replace Ha := Lib.hid (Ha.out.later hb)
  replace Habc := Lib.hid (Habc.out.later hb)
  replace Hri := Lib.hid (Hri.out.later hb)
  replace Hse := Lib.hid (Hse.out.later hb)
  replace Hba := Lib.hid (Hba.out.later hb)
  replace Hag := Lib.hid (Hag.out.later hb)
  clear hb
  go_wp2_with fail
  refine (same_any _ _ ba a _ Hba.out Ha.out).mono ?_
  rintro e W18 ⟨rfl, hb⟩
  rw [decide_eq_true S3.out]
  replace HW := Lib.hid (below_trans HW.out hb)
  replace Ha := Lib.hid (Ha.out.later hb)
  replace Habc := Lib.hid (Habc.out.later hb)
  replace Hri := Lib.hid (Hri.out.later hb)
  replace Hse := Lib.hid (Hse.out.later hb)
  replace Hba := Lib.hid (Hba.out.later hb)
  replace Hag := Lib.hid (Hag.out.later hb)
  clear hb
  go_wp2_with fail
  refine (same_any _ _ ag a _ Hag.out Ha.out).mono ?_
  rintro e W19 ⟨rfl, hb⟩
  rw [decide_eq_true S4.out]
  replace HW := Lib.hid (below_trans HW.out hb)
  replace Ha := Lib.hid (Ha.out.later hb)
  replace Habc := Lib.hid (Habc.out.later hb)
  replace Hri := Lib.hid (Hri.out.later hb)
  replace Hse := Lib.hid (Hse.out.later hb)
  replace Hba := Lib.hid (Hba.out.later hb)
  replace Hag := Lib.hid (Hag.out.later hb)
  clear hb
  go_wp2_with fail
  go_ret
  exact ⟨rfl, HW.out⟩
end Go.Proofs.Ytmgippddljmfjaa
