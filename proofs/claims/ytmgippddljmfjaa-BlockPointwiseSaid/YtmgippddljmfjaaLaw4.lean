/-
  The contract of the law BlockPointwise: it returns true.
-/
import Derived.Test.YtmgippddljmfjaaWalk25
namespace Go.Proofs.Ytmgippddljmfjaa
open Go Go.RowKit Go.Dial Go.Dial.Blk

set_option maxRecDepth 100000 in
set_option maxHeartbeats 8000000 in
theorem law4_any (Ax Ay : Option Addr) (cx cy : Nat) (xs ys : List (Int × Int × Int)) (r0 r1 fr to_ which n : Int) (w : World) (hSx : Span w w.heap.size 3 Ax xs.length (tcs xs)) (hSy : Span w w.heap.size 3 Ay ys.length (tcs ys))
    (hb : (∀ x ∈ xs, Tri x) ∧ (∀ x ∈ ys, Tri x) ∧ I64 r0 ∧ I64 r1 ∧ I64 fr ∧ I64 to_ ∧ I64 which ∧ I64 n ∧ xs.length ≤ cx ∧ ys.length ≤ cy ∧ cx ≤ maxLen ∧ cy ≤ maxLen) :
    Calls Try.prog 4 #[.slice Ax xs.length cx, .slice Ay ys.length cy, .agg #[.int .i64 r0, .int .i64 r1], .int .i64 fr, .int .i64 to_, .int .i64 which, .int .i64 n] w fun e w' => e = .returned (.bool true) ∧ Below w.heap.size w w' := by
  obtain ⟨hax, hay, hr0, hr1, hfr, hto, hwh, hn, hcx, hcy, hmx, hmy⟩ := hb
  unfold maxLen at hmx hmy
  have a_mk := madeK_mk 10 xs
  obtain ⟨a, ha⟩ : ∃ A, A = madeV (xs.take 10) := ⟨_, rfl⟩
  rw [← ha] at a_mk
  have HA := Lib.hid ha
  have b_mk := madeK_mk 8 ys
  obtain ⟨b, hb⟩ : ∃ A, A = madeV (ys.take 8) := ⟨_, rfl⟩
  rw [← hb] at b_mk
  have HB := Lib.hid hb
  have P_rng := piece_rng r0 r1
  obtain ⟨⟨p, p'⟩, hp⟩ : ∃ p, p = pieceV r0 r1 := ⟨_, rfl⟩
  rw [← hp] at P_rng
  have HP := Lib.hid hp
  have U_car := car_pick fr
  obtain ⟨u, hu⟩ : ∃ x, x = pickV fr 8 := ⟨_, rfl⟩
  rw [← hu] at U_car
  have HU := Lib.hid hu
  have V_car := car_pick to_
  obtain ⟨v, hv⟩ : ∃ y, y = pickV to_ 8 := ⟨_, rfl⟩
  rw [← hv] at V_car
  have HV := Lib.hid hv
  dsimp only at P_rng
  clear ha hb hp hu hv
  obtain ⟨gg, e1, m1, h1⟩ := give_mk a_mk (by omega) P_rng V_car
  obtain ⟨le, e2, m2, h2⟩ := take_mk a_mk (by omega) P_rng
  obtain ⟨pa, e3, m3, h3⟩ := only_mk a_mk (by omega) P_rng
  obtain ⟨ov, e4, m4, h4⟩ := overlay_mk a_mk b_mk (by omega)
  obtain ⟨ww, e5, m5, h5⟩ := swap_mk a_mk (by omega) U_car V_car
  rw [rngB_iff] at P_rng
  rw [carB_iff] at U_car V_car
  obtain ⟨pb1, pb2, pb3⟩ := P_rng
  have E1 := Lib.hid e1
  have E2 := Lib.hid e2
  have E3 := Lib.hid e3
  have E4 := Lib.hid e4
  have E5 := Lib.hid e5
  have AV := Lib.hid (a_mk.valid (by omega))
  have BV := Lib.hid (b_mk.valid (by omega))
  have GV := Lib.hid (m1.valid (by omega))
  have LV := Lib.hid (m2.valid (by omega))
  have PV := Lib.hid (m3.valid (by omega))
  have OV := Lib.hid (m4.valid (by omega))
  have WV := Lib.hid (m5.valid (by omega))
  have MA := Lib.hid a_mk.1
  have MB := Lib.hid b_mk.1
  have H1 := Lib.hid h1
  have H2 := Lib.hid h2
  have H3 := Lib.hid h3
  have H4 := Lib.hid h4
  have H5 := Lib.hid h5
  clear e1 e2 e3 e4 e5 h1 h2 h3 h4 h5 m1 m2 m3 m4 m5 a_mk b_mk
  obtain ⟨W0, hW0⟩ : ∃ W0, W0 = w.alloc (.cells #[.int .i64 r0, .int .i64 r1] 35) := ⟨_, rfl⟩
  have C9 : Hid (W0.heap[w.heap.size]? = some (.cells #[.int .i64 r0, .int .i64 r1] 35)) := Lib.hid (by rw [hW0]; exact new_heap _ _)
  have hb0 : Below w.heap.size w W0 := by rw [hW0]; exact below_al _ _
  have HSX : Hid (Span W0 W0.heap.size 3 Ax xs.length (tcs xs)) := Lib.hid ((hSx.below hb0 (Nat.le_refl _)).mono hb0.size)
  have HSY : Hid (Span W0 W0.heap.size 3 Ay ys.length (tcs ys)) := Lib.hid ((hSy.below hb0 (Nat.le_refl _)).mono hb0.size)
  have HW := Lib.hid hb0
  have HWS := Lib.hid hW0
  have TX := Lib.hid hax
  have TY := Lib.hid hay
  clear hb0 hSx hSy hax hay
  go_enter Try.func4, Try.ntmps4
  go_wp2_with fail
  rw [← HWS.out]
  clear hW0
  refine (sane_any _).mono ?_
  rintro e W1 ⟨rfl, hb⟩
  replace HW := Lib.hid (below_trans HW.out hb)
  replace C9 := Lib.hid (cell_keep C9.out hb)
  replace HSX := Lib.hid ((HSX.out.below hb (Nat.le_refl _)).mono hb.size)
  replace HSY := Lib.hid ((HSY.out.below hb (Nat.le_refl _)).mono hb.size)
  clear hb
  obtain ⟨C9_0, C9_1, C9_2⟩ := cell2 C9.out
  go_upto_region 4 with fail
  go_cut [16] (fun v wx => HoldsB wx wx.heap.size v a ∧ Below W1.heap.size W1 wx)
  case first =>
    by_cases hmin : xs.length ≤ 10
    · go_wp2_with fail
      refine (madeK_any 10 xs.length Ax cx xs W1 (by omega) (by omega) HSX.out TX.out).mono ?_
      rintro e wq ⟨⟨vq, rfl, hq⟩, hbq⟩
      go_wp2_with fail
      go_meet
      exact ⟨by rw [HA.out]; exact hq, hbq⟩
    · go_wp2_with fail
      refine (madeK_any 10 10 Ax cx xs W1 (by omega) (by omega) HSX.out TX.out).mono ?_
      rintro e wq ⟨⟨vq, rfl, hq⟩, hbq⟩
      go_wp2_with fail
      go_meet
      exact ⟨by rw [HA.out]; exact hq, hbq⟩
  clear C9_0 C9_1 C9_2
  obtain ⟨h1, hb⟩ := hcut
  obtain ⟨W2, hnew⟩ : ∃ W, W = wc := ⟨_, rfl⟩
  subst hnew
  clear HSX
  replace HW := Lib.hid (below_trans HW.out hb)
  replace C9 := Lib.hid (cell_keep C9.out hb)
  replace HSY := Lib.hid ((HSY.out.below hb (Nat.le_refl _)).mono hb.size)
  clear hb
  have Ha := Lib.hid h1
  clear h1
  obtain ⟨C9_0, C9_1, C9_2⟩ := cell2 C9.out
  go_upto_region 5 with fail
  go_cut [17] (fun v wx => HoldsB wx wx.heap.size v b ∧ Below W2.heap.size W2 wx)
  case first =>
    by_cases hmin : ys.length ≤ 8
    · go_wp2_with fail
      refine (madeK_any 8 ys.length Ay cy ys W2 (by omega) (by omega) HSY.out TY.out).mono ?_
      rintro e wq ⟨⟨vq, rfl, hq⟩, hbq⟩
      go_wp2_with fail
      go_meet
      exact ⟨by rw [HB.out]; exact hq, hbq⟩
    · go_wp2_with fail
      refine (madeK_any 8 8 Ay cy ys W2 (by omega) (by omega) HSY.out TY.out).mono ?_
      rintro e wq ⟨⟨vq, rfl, hq⟩, hbq⟩
      go_wp2_with fail
      go_meet
      exact ⟨by rw [HB.out]; exact hq, hbq⟩
  clear C9_0 C9_1 C9_2
  obtain ⟨h1, hb⟩ := hcut
  obtain ⟨W3, hnew⟩ : ∃ W, W = wc := ⟨_, rfl⟩
  subst hnew
  clear HSY
  replace HW := Lib.hid (below_trans HW.out hb)
  replace C9 := Lib.hid (cell_keep C9.out hb)
  replace Ha := Lib.hid (Ha.out.later hb)
  clear hb
  have Hb := Lib.hid h1
  clear h1
  obtain ⟨C9_0, C9_1, C9_2⟩ := cell2 C9.out
  go_wp2_with fail
  refine (piece_any r0 r1 _ hr0 hr1).mono ?_
  rintro e W4 ⟨rfl, hb⟩
  clear C9_0 C9_1 C9_2
  replace HW := Lib.hid (below_trans HW.out hb)
  replace C9 := Lib.hid (cell_keep C9.out hb)
  replace Ha := Lib.hid (Ha.out.later hb)
  replace Hb := Lib.hid (Hb.out.later hb)
  clear hb
  rw [← HP.out]
  dsimp only
  obtain ⟨C9_0, C9_1, C9_2⟩ := cell2 C9.out
  go_wp2_with fail
  obtain ⟨W5, hnew⟩ : ∃ W, W = W4.alloc (.cells #[.int .i64 p, .int .i64 p'] 26) := ⟨_, rfl⟩
  rw [← hnew]
  have C180 := Lib.hid (show W5.heap[W4.heap.size]? = some (.cells #[.int .i64 p, .int .i64 p'] 26) by rw [hnew]; exact new_heap _ _)
  have hb : Below W4.heap.size W4 W5 := by rw [hnew]; exact below_al _ _
  clear hnew C9_0 C9_1 C9_2
  replace HW := Lib.hid (below_trans HW.out hb)
  replace C9 := Lib.hid (cell_keep C9.out hb)
  replace Ha := Lib.hid (Ha.out.later hb)
  replace Hb := Lib.hid (Hb.out.later hb)
  clear hb
  have C18 := C180
  clear C180
  clear C9
  refine (pick_any fr 8 _ hfr (by decide) (by decide)).mono ?_
  rintro e wq ⟨rfl, rfl⟩
  rw [← HU.out]
  obtain ⟨C18_0, C18_1, C18_2⟩ := cell2 C18.out
  go_wp2_with fail
  refine (pick_any to_ 8 _ hto (by decide) (by decide)).mono ?_
  rintro e wq ⟨rfl, rfl⟩
  rw [← HV.out]
  clear C18_0 C18_1 C18_2
  have na := near_i64 MA.out which n hn
  obtain ⟨k0, hk0⟩ : ∃ x, x = nearV a which n := ⟨_, rfl⟩
  rw [← hk0] at na
  have K0 := Lib.hid hk0
  have nb := near_i64 MB.out which n hn
  obtain ⟨k1, hk1⟩ : ∃ x, x = nearV b which n := ⟨_, rfl⟩
  rw [← hk1] at nb
  have K1 := Lib.hid hk1
  have b3 := pickV_bd n (show (0 : Int) < 3 by decide)
  obtain ⟨q3, hq3⟩ : ∃ x, x = pickV n 3 := ⟨_, rfl⟩
  rw [← hq3] at b3
  have Q3 := Lib.hid hq3
  have b8 := pickV_bd n (show (0 : Int) < 100000000 by decide)
  obtain ⟨q8, hq8⟩ : ∃ x, x = pickV n 100000000 := ⟨_, rfl⟩
  rw [← hq8] at b8
  have Q8 := Lib.hid hq8
  clear hk0 hk1 hq3 hq8
  have D0Ha := Lib.hid (show HoldsB W5.drew W5.drew.heap.size _ a from Ha.out)
  have D0Hb := Lib.hid (show HoldsB W5.drew W5.drew.heap.size _ b from Hb.out)
  have D0C : Hid (W5.drew.heap[_]? = _) := Lib.hid C18.out
  have s1 : IntKind.i64.wrap (p - 1) = p - 1 := IntWalk.i64_in _ (by omega)
  have s2 : IntKind.i64.wrap (p - 1 + q3) = p - 1 + q3 := IntWalk.i64_in _ (by omega)
  have s3 : IntKind.i64.wrap (p' - 1) = p' - 1 := IntWalk.i64_in _ (by omega)
  have s4 : IntKind.i64.wrap (p' - 1 + q3) = p' - 1 + q3 := IntWalk.i64_in _ (by omega)
  obtain ⟨C18_0, C18_1, C18_2⟩ := cell2 C18.out
  go_upto_region 9 with fail
  go_region_held3 (fun w' => w'.cell? ⟨W4.heap.size, 0, none⟩ = some (.int .i64 p) ∧ w'.cell? ⟨W4.heap.size, 1, none⟩ = some (.int .i64 p')) (go_keep)
    (first
      | (go_at_call 15; (with_reducible refine (near_any _ a which n W5.drew D0Ha.out AV.out hwh hn).mono ?_); rintro e X1 ⟨rfl, hb0⟩; rw [← K0.out]; have D1Ha := Lib.hid (D0Ha.out.later hb0); have D1Hb := Lib.hid (D0Hb.out.later hb0); have D1C := Lib.hid (cell_keep D0C.out hb0); obtain ⟨y0_0, y0_1, y0_2⟩ := cell2 D1C.out)
      | (go_at_call 15; (with_reducible refine (near_any _ b which n X1 D1Hb.out BV.out hwh hn).mono ?_); rintro e X2 ⟨rfl, hb1⟩; rw [← K1.out]; have D2Ha := Lib.hid (D1Ha.out.later hb1); have D2Hb := Lib.hid (D1Hb.out.later hb1); have D2C := Lib.hid (cell_keep D1C.out hb1); obtain ⟨y1_0, y1_1, y1_2⟩ := cell2 D2C.out)
      | (go_at_call 17; (with_reducible refine (pick_any n 3 X2 hn (by decide) (by decide)).mono ?_); rintro e wq ⟨rfl, rfl⟩; rw [← Q3.out])
      | (go_at_call 17; (with_reducible refine (pick_any n 100000000 X2 hn (by decide) (by decide)).mono ?_); rintro e wq ⟨rfl, rfl⟩; rw [← Q8.out]))
  clear s1 s2 s3 s4 C18_0 C18_1 C18_2 y0_0 y0_1 y0_2 y1_0 y1_1 y1_2
  obtain ⟨W6, hnew⟩ : ∃ W, W = X2.alloc (.cells #[.int .i64 k0, .int .i64 k1, .int .i64 (p - 1 + q3), .int .i64 (p' - 1 + q3), .int .i64 q8] 3) := ⟨_, rfl⟩
  rw [← hnew]
  have CK : Hid (W6.heap[X2.heap.size]? = some (.cells #[.int .i64 k0, .int .i64 k1, .int .i64 (p - 1 + q3), .int .i64 (p' - 1 + q3), .int .i64 q8] 3)) := Lib.hid (by rw [hnew]; exact new_heap _ _)
  have hb : Below W5.heap.size W5 W6 := below_trans (below_trans (below_trans (Below.refl _ W5).drew hb0) hb1) (by rw [hnew]; exact below_al _ _)
  clear hnew hb0 hb1 D0Ha D0Hb D0C D1Ha D1Hb D1C D2Ha D2Hb D2C
  replace HW := Lib.hid (below_trans HW.out hb)
  replace Ha := Lib.hid (Ha.out.later hb)
  replace Hb := Lib.hid (Hb.out.later hb)
  replace C18 := Lib.hid (cell_keep C18.out hb)
  clear hb
  go_wp2_with fail
  go_loopw [85] (fun i wr => ∃ j : Nat, j ≤ 5 ∧ i = .int .i64 j ∧ Below W6.heap.size W6 wr) (fun i _ => 5 - (intOf i).toNat)
  case atStart => exact ⟨0, by omega, rfl, Below.refl _ _⟩
  obtain ⟨j, hj, rfl, hbr⟩ := hrel
  by_cases hj5 : j < 5
  · have ck : ∃ k : Int, (#[.int .i64 k0, .int .i64 k1, .int .i64 (p - 1 + q3), .int .i64 (p' - 1 + q3), .int .i64 q8] : Array Value)[j]? = some (.int .i64 k) := by
      match j, hj5 with
      | 0, _ => exact ⟨_, rfl⟩
      | 1, _ => exact ⟨_, rfl⟩
      | 2, _ => exact ⟨_, rfl⟩
      | 3, _ => exact ⟨_, rfl⟩
      | 4, _ => exact ⟨_, rfl⟩
    obtain ⟨k, hk⟩ := ck
    have cell : wr.cell? ⟨X2.heap.size, j, none⟩ = some (.int .i64 k) := by
      have h := (hbr.block _ (Array.getElem?_eq_some_iff.1 CK.out).1).trans CK.out
      simp only [World.cell?, h]; exact hk
    obtain ⟨Y0, hY0⟩ : ∃ Y, Y = wr := ⟨_, rfl⟩
    subst hY0
    have HO := HW
    clear HW hk
    have HW := Lib.hid hbr
    have Da := Lib.hid (Ha.out.later hbr)
    have Db := Lib.hid (Hb.out.later hbr)
    have D18 := Lib.hid (cell_keep C18.out hbr)
    clear hbr
    have z0 : (0 : Int) ≤ (j : Int) := by omega
    have z1 : (j : Int) < 5 := by omega
    obtain ⟨x, hx⟩ : ∃ x, x = hold a k := ⟨_, rfl⟩
    obtain ⟨y, hy⟩ : ∃ y, y = hold b k := ⟨_, rfl⟩
    have rx := hold_range MA.out k
    have ry := hold_range MB.out k
    rw [← hx] at rx
    rw [← hy] at ry
    have X0 := Lib.hid hx
    have YV := Lib.hid hy
    clear hx hy
    obtain ⟨D18_0, D18_1, D18_2⟩ := cell2 D18.out
    go_wp2_with fail
    refine (give_any _ a p p' v _ Da.out).mono ?_
    rw [E1.out]
    rintro e Y1 ⟨vg, rfl, h1, hb⟩
    clear D18_0 D18_1 D18_2
    dsimp only at h1 ⊢
    replace HW := Lib.hid (below_trans HW.out hb)
    replace Da := Lib.hid (Da.out.later hb)
    replace Db := Lib.hid (Db.out.later hb)
    replace D18 := Lib.hid (cell_keep D18.out hb)
    clear hb
    have Dg := Lib.hid h1
    clear h1
    clear cell
    obtain ⟨D18_0, D18_1, D18_2⟩ := cell2 D18.out
    go_wp2_with fail
    refine (take_any _ a p p' _ Da.out).mono ?_
    rw [E2.out]
    rintro e Y2 ⟨vl, rfl, h1, hb⟩
    clear D18_0 D18_1 D18_2
    dsimp only at h1 ⊢
    replace HW := Lib.hid (below_trans HW.out hb)
    replace Da := Lib.hid (Da.out.later hb)
    replace Db := Lib.hid (Db.out.later hb)
    replace D18 := Lib.hid (cell_keep D18.out hb)
    replace Dg := Lib.hid (Dg.out.later hb)
    clear hb
    have Dl := Lib.hid h1
    clear h1
    obtain ⟨D18_0, D18_1, D18_2⟩ := cell2 D18.out
    go_wp2_with fail
    refine (only_any _ a p p' _ Da.out).mono ?_
    rw [E3.out]
    rintro e Y3 ⟨vp, rfl, h1, hb⟩
    clear D18_0 D18_1 D18_2
    dsimp only at h1 ⊢
    replace HW := Lib.hid (below_trans HW.out hb)
    replace Da := Lib.hid (Da.out.later hb)
    replace Db := Lib.hid (Db.out.later hb)
    replace D18 := Lib.hid (cell_keep D18.out hb)
    replace Dg := Lib.hid (Dg.out.later hb)
    replace Dl := Lib.hid (Dl.out.later hb)
    clear hb
    have Dp := Lib.hid h1
    clear h1
    obtain ⟨D18_0, D18_1, D18_2⟩ := cell2 D18.out
    go_wp2_with fail
    refine (overlay_any _ _ a b _ Da.out Db.out).mono ?_
    rw [E4.out]
    rintro e Y4 ⟨vo, rfl, h1, hb⟩
    clear D18_0 D18_1 D18_2
    dsimp only at h1 ⊢
    replace HW := Lib.hid (below_trans HW.out hb)
    replace Da := Lib.hid (Da.out.later hb)
    replace Db := Lib.hid (Db.out.later hb)
    replace D18 := Lib.hid (cell_keep D18.out hb)
    replace Dg := Lib.hid (Dg.out.later hb)
    replace Dl := Lib.hid (Dl.out.later hb)
    replace Dp := Lib.hid (Dp.out.later hb)
    clear hb
    have Do := Lib.hid h1
    clear h1
    obtain ⟨D18_0, D18_1, D18_2⟩ := cell2 D18.out
    go_wp2_with fail
    refine (swap_any _ a u v _ Da.out).mono ?_
    rw [E5.out]
    rintro e Y5 ⟨vw, rfl, h1, hb⟩
    clear D18_0 D18_1 D18_2
    dsimp only at h1 ⊢
    replace HW := Lib.hid (below_trans HW.out hb)
    replace Da := Lib.hid (Da.out.later hb)
    replace Db := Lib.hid (Db.out.later hb)
    replace D18 := Lib.hid (cell_keep D18.out hb)
    replace Dg := Lib.hid (Dg.out.later hb)
    replace Dl := Lib.hid (Dl.out.later hb)
    replace Dp := Lib.hid (Dp.out.later hb)
    replace Do := Lib.hid (Do.out.later hb)
    clear hb
    have Dw := Lib.hid h1
    clear h1
    obtain ⟨D18_0, D18_1, D18_2⟩ := cell2 D18.out
    go_wp2_with fail
    refine (validH_any _ gg _ Dg.out).mono ?_
    rintro e Y6 ⟨rfl, hb⟩
    clear D18_0 D18_1 D18_2
    rw [GV.out]
    replace HW := Lib.hid (below_trans HW.out hb)
    replace Da := Lib.hid (Da.out.later hb)
    replace Db := Lib.hid (Db.out.later hb)
    replace D18 := Lib.hid (cell_keep D18.out hb)
    replace Dg := Lib.hid (Dg.out.later hb)
    replace Dl := Lib.hid (Dl.out.later hb)
    replace Dp := Lib.hid (Dp.out.later hb)
    replace Do := Lib.hid (Do.out.later hb)
    replace Dw := Lib.hid (Dw.out.later hb)
    clear hb
    obtain ⟨D18_0, D18_1, D18_2⟩ := cell2 D18.out
    go_wp2_with fail
    refine (validH_any _ le _ Dl.out).mono ?_
    rintro e Y7 ⟨rfl, hb⟩
    clear D18_0 D18_1 D18_2
    rw [LV.out]
    replace HW := Lib.hid (below_trans HW.out hb)
    replace Da := Lib.hid (Da.out.later hb)
    replace Db := Lib.hid (Db.out.later hb)
    replace D18 := Lib.hid (cell_keep D18.out hb)
    replace Dg := Lib.hid (Dg.out.later hb)
    replace Dl := Lib.hid (Dl.out.later hb)
    replace Dp := Lib.hid (Dp.out.later hb)
    replace Do := Lib.hid (Do.out.later hb)
    replace Dw := Lib.hid (Dw.out.later hb)
    clear hb
    obtain ⟨D18_0, D18_1, D18_2⟩ := cell2 D18.out
    go_wp2_with fail
    refine (validH_any _ pa _ Dp.out).mono ?_
    rintro e Y8 ⟨rfl, hb⟩
    clear D18_0 D18_1 D18_2
    rw [PV.out]
    replace HW := Lib.hid (below_trans HW.out hb)
    replace Da := Lib.hid (Da.out.later hb)
    replace Db := Lib.hid (Db.out.later hb)
    replace D18 := Lib.hid (cell_keep D18.out hb)
    replace Dg := Lib.hid (Dg.out.later hb)
    replace Dl := Lib.hid (Dl.out.later hb)
    replace Dp := Lib.hid (Dp.out.later hb)
    replace Do := Lib.hid (Do.out.later hb)
    replace Dw := Lib.hid (Dw.out.later hb)
    clear hb
    obtain ⟨D18_0, D18_1, D18_2⟩ := cell2 D18.out
    go_wp2_with fail
    refine (validH_any _ ov _ Do.out).mono ?_
    rintro e Y9 ⟨rfl, hb⟩
    clear D18_0 D18_1 D18_2
    rw [OV.out]
    replace HW := Lib.hid (below_trans HW.out hb)
    replace Da := Lib.hid (Da.out.later hb)
    replace Db := Lib.hid (Db.out.later hb)
    replace D18 := Lib.hid (cell_keep D18.out hb)
    replace Dg := Lib.hid (Dg.out.later hb)
    replace Dl := Lib.hid (Dl.out.later hb)
    replace Dp := Lib.hid (Dp.out.later hb)
    replace Do := Lib.hid (Do.out.later hb)
    replace Dw := Lib.hid (Dw.out.later hb)
    clear hb
    obtain ⟨D18_0, D18_1, D18_2⟩ := cell2 D18.out
    go_wp2_with fail
    refine (validH_any _ ww _ Dw.out).mono ?_
    rintro e Y10 ⟨rfl, hb⟩
    clear D18_0 D18_1 D18_2
    rw [WV.out]
    replace HW := Lib.hid (below_trans HW.out hb)
    replace Da := Lib.hid (Da.out.later hb)
    replace Db := Lib.hid (Db.out.later hb)
    replace D18 := Lib.hid (cell_keep D18.out hb)
    replace Dg := Lib.hid (Dg.out.later hb)
    replace Dl := Lib.hid (Dl.out.later hb)
    replace Dp := Lib.hid (Dp.out.later hb)
    replace Do := Lib.hid (Do.out.later hb)
    replace Dw := Lib.hid (Dw.out.later hb)
    clear hb
    obtain ⟨D18_0, D18_1, D18_2⟩ := cell2 D18.out
    go_wp2_with fail
    refine (holder_any _ a k _ Da.out AV.out).mono ?_
    rintro e Y11 ⟨rfl, hb⟩
    clear D18_0 D18_1 D18_2
    rw [← X0.out]
    replace HW := Lib.hid (below_trans HW.out hb)
    replace Da := Lib.hid (Da.out.later hb)
    replace Db := Lib.hid (Db.out.later hb)
    replace D18 := Lib.hid (cell_keep D18.out hb)
    replace Dg := Lib.hid (Dg.out.later hb)
    replace Dl := Lib.hid (Dl.out.later hb)
    replace Dp := Lib.hid (Dp.out.later hb)
    replace Do := Lib.hid (Do.out.later hb)
    replace Dw := Lib.hid (Dw.out.later hb)
    clear hb
    by_cases hin : p ≤ k ∧ k < p'
    · by_cases hyy : y = -1
      · by_cases hxu : x = u
        · as_aux_lemma =>
            have IN := Lib.hid (show inR p p' k = true by simp [inR]; omega)
            have G1 := Lib.hid (show hold gg k = v by rw [H1.out, if_pos (by omega)])
            have G2 := Lib.hid (show hold le k = -1 by rw [H2.out, if_pos (by omega)])
            have G3 := Lib.hid (show hold pa k = x by rw [H3.out, if_pos (by omega), ← X0.out])
            have G4 := Lib.hid (show hold ov k = x by rw [H4.out, ← X0.out, ← YV.out, if_pos (by omega)])
            have G5 := Lib.hid (show hold ww k = v by rw [H5.out, ← X0.out, if_pos (by omega)])
            have tu : (x == u) = true := by rw [beq_iff_eq]; omega
            have hyn : y < 0 := by omega
            have hk0 : 0 ≤ k := by omega
            have hk9 : k ≤ 99999999 := by omega
            clear hyy hxu
            obtain ⟨D18_0, D18_1, D18_2⟩ := cell2 D18.out
            go_wp2_with fail
            refine (in_any p p' k _).mono ?_
            rintro e Y12 ⟨rfl, hb⟩
            clear D18_0 D18_1 D18_2
            rw [IN.out]
            replace HW := Lib.hid (below_trans HW.out hb)
            replace Da := Lib.hid (Da.out.later hb)
            replace Db := Lib.hid (Db.out.later hb)
            replace D18 := Lib.hid (cell_keep D18.out hb)
            replace Dg := Lib.hid (Dg.out.later hb)
            replace Dl := Lib.hid (Dl.out.later hb)
            replace Dp := Lib.hid (Dp.out.later hb)
            replace Do := Lib.hid (Do.out.later hb)
            replace Dw := Lib.hid (Dw.out.later hb)
            clear hb
            obtain ⟨D18_0, D18_1, D18_2⟩ := cell2 D18.out
            go_wp2_with fail
            refine (holder_any _ b k _ Db.out BV.out).mono ?_
            rintro e Y13 ⟨rfl, hb⟩
            clear D18_0 D18_1 D18_2
            rw [← YV.out]
            replace HW := Lib.hid (below_trans HW.out hb)
            replace Da := Lib.hid (Da.out.later hb)
            replace Db := Lib.hid (Db.out.later hb)
            replace D18 := Lib.hid (cell_keep D18.out hb)
            replace Dg := Lib.hid (Dg.out.later hb)
            replace Dl := Lib.hid (Dl.out.later hb)
            replace Dp := Lib.hid (Dp.out.later hb)
            replace Do := Lib.hid (Do.out.later hb)
            replace Dw := Lib.hid (Dw.out.later hb)
            clear hb
            obtain ⟨D18_0, D18_1, D18_2⟩ := cell2 D18.out
            go_wp2_with fail
            refine (holder_any _ gg k _ Dg.out GV.out).mono ?_
            rintro e Y14 ⟨rfl, hb⟩
            clear D18_0 D18_1 D18_2
            rw [G1.out]
            replace HW := Lib.hid (below_trans HW.out hb)
            replace Da := Lib.hid (Da.out.later hb)
            replace Db := Lib.hid (Db.out.later hb)
            replace D18 := Lib.hid (cell_keep D18.out hb)
            replace Dg := Lib.hid (Dg.out.later hb)
            replace Dl := Lib.hid (Dl.out.later hb)
            replace Dp := Lib.hid (Dp.out.later hb)
            replace Do := Lib.hid (Do.out.later hb)
            replace Dw := Lib.hid (Dw.out.later hb)
            clear hb
            obtain ⟨D18_0, D18_1, D18_2⟩ := cell2 D18.out
            go_wp2_with fail
            refine (holder_any _ le k _ Dl.out LV.out).mono ?_
            rintro e Y15 ⟨rfl, hb⟩
            clear D18_0 D18_1 D18_2
            rw [G2.out]
            replace HW := Lib.hid (below_trans HW.out hb)
            replace Da := Lib.hid (Da.out.later hb)
            replace Db := Lib.hid (Db.out.later hb)
            replace D18 := Lib.hid (cell_keep D18.out hb)
            replace Dg := Lib.hid (Dg.out.later hb)
            replace Dl := Lib.hid (Dl.out.later hb)
            replace Dp := Lib.hid (Dp.out.later hb)
            replace Do := Lib.hid (Do.out.later hb)
            replace Dw := Lib.hid (Dw.out.later hb)
            clear hb
            obtain ⟨D18_0, D18_1, D18_2⟩ := cell2 D18.out
            go_wp2_with fail
            refine (holder_any _ pa k _ Dp.out PV.out).mono ?_
            rintro e Y16 ⟨rfl, hb⟩
            clear D18_0 D18_1 D18_2
            rw [G3.out]
            replace HW := Lib.hid (below_trans HW.out hb)
            replace Da := Lib.hid (Da.out.later hb)
            replace Db := Lib.hid (Db.out.later hb)
            replace D18 := Lib.hid (cell_keep D18.out hb)
            replace Dg := Lib.hid (Dg.out.later hb)
            replace Dl := Lib.hid (Dl.out.later hb)
            replace Dp := Lib.hid (Dp.out.later hb)
            replace Do := Lib.hid (Do.out.later hb)
            replace Dw := Lib.hid (Dw.out.later hb)
            clear hb
            obtain ⟨D18_0, D18_1, D18_2⟩ := cell2 D18.out
            go_wp2_with fail
            refine (holder_any _ ov k _ Do.out OV.out).mono ?_
            rintro e Y17 ⟨rfl, hb⟩
            clear D18_0 D18_1 D18_2
            rw [G4.out]
            replace HW := Lib.hid (below_trans HW.out hb)
            replace Da := Lib.hid (Da.out.later hb)
            replace Db := Lib.hid (Db.out.later hb)
            replace D18 := Lib.hid (cell_keep D18.out hb)
            replace Dg := Lib.hid (Dg.out.later hb)
            replace Dl := Lib.hid (Dl.out.later hb)
            replace Dp := Lib.hid (Dp.out.later hb)
            replace Do := Lib.hid (Do.out.later hb)
            replace Dw := Lib.hid (Dw.out.later hb)
            clear hb
            obtain ⟨D18_0, D18_1, D18_2⟩ := cell2 D18.out
            go_wp2_with fail
            refine (holder_any _ ww k _ Dw.out WV.out).mono ?_
            rintro e Y18 ⟨rfl, hb⟩
            clear D18_0 D18_1 D18_2
            rw [G5.out]
            replace HW := Lib.hid (below_trans HW.out hb)
            replace Da := Lib.hid (Da.out.later hb)
            replace Db := Lib.hid (Db.out.later hb)
            replace D18 := Lib.hid (cell_keep D18.out hb)
            replace Dg := Lib.hid (Dg.out.later hb)
            replace Dl := Lib.hid (Dl.out.later hb)
            replace Dp := Lib.hid (Dp.out.later hb)
            replace Do := Lib.hid (Do.out.later hb)
            replace Dw := Lib.hid (Dw.out.later hb)
            clear hb
            go_wp2_with fail
            exact ⟨⟨j + 1, by omega, by go_num, HW.out⟩, by simp [intOf]; omega⟩
        · as_aux_lemma =>
            have IN := Lib.hid (show inR p p' k = true by simp [inR]; omega)
            have G1 := Lib.hid (show hold gg k = v by rw [H1.out, if_pos (by omega)])
            have G2 := Lib.hid (show hold le k = -1 by rw [H2.out, if_pos (by omega)])
            have G3 := Lib.hid (show hold pa k = x by rw [H3.out, if_pos (by omega), ← X0.out])
            have G4 := Lib.hid (show hold ov k = x by rw [H4.out, ← X0.out, ← YV.out, if_pos (by omega)])
            have G5 := Lib.hid (show hold ww k = x by rw [H5.out, ← X0.out, if_neg (by omega)])
            have tu : (x == u) = false := by rw [beq_eq_false_iff_ne]; omega
            have hyn : y < 0 := by omega
            have hk0 : 0 ≤ k := by omega
            have hk9 : k ≤ 99999999 := by omega
            clear hyy hxu
            obtain ⟨D18_0, D18_1, D18_2⟩ := cell2 D18.out
            go_wp2_with fail
            refine (in_any p p' k _).mono ?_
            rintro e Y12 ⟨rfl, hb⟩
            clear D18_0 D18_1 D18_2
            rw [IN.out]
            replace HW := Lib.hid (below_trans HW.out hb)
            replace Da := Lib.hid (Da.out.later hb)
            replace Db := Lib.hid (Db.out.later hb)
            replace D18 := Lib.hid (cell_keep D18.out hb)
            replace Dg := Lib.hid (Dg.out.later hb)
            replace Dl := Lib.hid (Dl.out.later hb)
            replace Dp := Lib.hid (Dp.out.later hb)
            replace Do := Lib.hid (Do.out.later hb)
            replace Dw := Lib.hid (Dw.out.later hb)
            clear hb
            obtain ⟨D18_0, D18_1, D18_2⟩ := cell2 D18.out
            go_wp2_with fail
            refine (holder_any _ b k _ Db.out BV.out).mono ?_
            rintro e Y13 ⟨rfl, hb⟩
            clear D18_0 D18_1 D18_2
            rw [← YV.out]
            replace HW := Lib.hid (below_trans HW.out hb)
            replace Da := Lib.hid (Da.out.later hb)
            replace Db := Lib.hid (Db.out.later hb)
            replace D18 := Lib.hid (cell_keep D18.out hb)
            replace Dg := Lib.hid (Dg.out.later hb)
            replace Dl := Lib.hid (Dl.out.later hb)
            replace Dp := Lib.hid (Dp.out.later hb)
            replace Do := Lib.hid (Do.out.later hb)
            replace Dw := Lib.hid (Dw.out.later hb)
            clear hb
            obtain ⟨D18_0, D18_1, D18_2⟩ := cell2 D18.out
            go_wp2_with fail
            refine (holder_any _ gg k _ Dg.out GV.out).mono ?_
            rintro e Y14 ⟨rfl, hb⟩
            clear D18_0 D18_1 D18_2
            rw [G1.out]
            replace HW := Lib.hid (below_trans HW.out hb)
            replace Da := Lib.hid (Da.out.later hb)
            replace Db := Lib.hid (Db.out.later hb)
            replace D18 := Lib.hid (cell_keep D18.out hb)
            replace Dg := Lib.hid (Dg.out.later hb)
            replace Dl := Lib.hid (Dl.out.later hb)
            replace Dp := Lib.hid (Dp.out.later hb)
            replace Do := Lib.hid (Do.out.later hb)
            replace Dw := Lib.hid (Dw.out.later hb)
            clear hb
            obtain ⟨D18_0, D18_1, D18_2⟩ := cell2 D18.out
            go_wp2_with fail
            refine (holder_any _ le k _ Dl.out LV.out).mono ?_
            rintro e Y15 ⟨rfl, hb⟩
            clear D18_0 D18_1 D18_2
            rw [G2.out]
            replace HW := Lib.hid (below_trans HW.out hb)
            replace Da := Lib.hid (Da.out.later hb)
            replace Db := Lib.hid (Db.out.later hb)
            replace D18 := Lib.hid (cell_keep D18.out hb)
            replace Dg := Lib.hid (Dg.out.later hb)
            replace Dl := Lib.hid (Dl.out.later hb)
            replace Dp := Lib.hid (Dp.out.later hb)
            replace Do := Lib.hid (Do.out.later hb)
            replace Dw := Lib.hid (Dw.out.later hb)
            clear hb
            obtain ⟨D18_0, D18_1, D18_2⟩ := cell2 D18.out
            go_wp2_with fail
            refine (holder_any _ pa k _ Dp.out PV.out).mono ?_
            rintro e Y16 ⟨rfl, hb⟩
            clear D18_0 D18_1 D18_2
            rw [G3.out]
            replace HW := Lib.hid (below_trans HW.out hb)
            replace Da := Lib.hid (Da.out.later hb)
            replace Db := Lib.hid (Db.out.later hb)
            replace D18 := Lib.hid (cell_keep D18.out hb)
            replace Dg := Lib.hid (Dg.out.later hb)
            replace Dl := Lib.hid (Dl.out.later hb)
            replace Dp := Lib.hid (Dp.out.later hb)
            replace Do := Lib.hid (Do.out.later hb)
            replace Dw := Lib.hid (Dw.out.later hb)
            clear hb
            obtain ⟨D18_0, D18_1, D18_2⟩ := cell2 D18.out
            go_wp2_with fail
            refine (holder_any _ ov k _ Do.out OV.out).mono ?_
            rintro e Y17 ⟨rfl, hb⟩
            clear D18_0 D18_1 D18_2
            rw [G4.out]
            replace HW := Lib.hid (below_trans HW.out hb)
            replace Da := Lib.hid (Da.out.later hb)
            replace Db := Lib.hid (Db.out.later hb)
            replace D18 := Lib.hid (cell_keep D18.out hb)
            replace Dg := Lib.hid (Dg.out.later hb)
            replace Dl := Lib.hid (Dl.out.later hb)
            replace Dp := Lib.hid (Dp.out.later hb)
            replace Do := Lib.hid (Do.out.later hb)
            replace Dw := Lib.hid (Dw.out.later hb)
            clear hb
            obtain ⟨D18_0, D18_1, D18_2⟩ := cell2 D18.out
            go_wp2_with fail
            refine (holder_any _ ww k _ Dw.out WV.out).mono ?_
            rintro e Y18 ⟨rfl, hb⟩
            clear D18_0 D18_1 D18_2
            rw [G5.out]
            replace HW := Lib.hid (below_trans HW.out hb)
            replace Da := Lib.hid (Da.out.later hb)
            replace Db := Lib.hid (Db.out.later hb)
            replace D18 := Lib.hid (cell_keep D18.out hb)
            replace Dg := Lib.hid (Dg.out.later hb)
            replace Dl := Lib.hid (Dl.out.later hb)
            replace Dp := Lib.hid (Dp.out.later hb)
            replace Do := Lib.hid (Do.out.later hb)
            replace Dw := Lib.hid (Dw.out.later hb)
            clear hb
            go_wp2_with fail
            exact ⟨⟨j + 1, by omega, by go_num, HW.out⟩, by simp [intOf]; omega⟩
      · by_cases hxu : x = u
        · as_aux_lemma =>
            have IN := Lib.hid (show inR p p' k = true by simp [inR]; omega)
            have G1 := Lib.hid (show hold gg k = v by rw [H1.out, if_pos (by omega)])
            have G2 := Lib.hid (show hold le k = -1 by rw [H2.out, if_pos (by omega)])
            have G3 := Lib.hid (show hold pa k = x by rw [H3.out, if_pos (by omega), ← X0.out])
            have G4 := Lib.hid (show hold ov k = y by rw [H4.out, ← X0.out, ← YV.out, if_neg (by omega)])
            have G5 := Lib.hid (show hold ww k = v by rw [H5.out, ← X0.out, if_pos (by omega)])
            have tu : (x == u) = true := by rw [beq_iff_eq]; omega
            have hyn : 0 ≤ y := by omega
            have hk0 : 0 ≤ k := by omega
            have hk9 : k ≤ 99999999 := by omega
            clear hyy hxu
            obtain ⟨D18_0, D18_1, D18_2⟩ := cell2 D18.out
            go_wp2_with fail
            refine (in_any p p' k _).mono ?_
            rintro e Y12 ⟨rfl, hb⟩
            clear D18_0 D18_1 D18_2
            rw [IN.out]
            replace HW := Lib.hid (below_trans HW.out hb)
            replace Da := Lib.hid (Da.out.later hb)
            replace Db := Lib.hid (Db.out.later hb)
            replace D18 := Lib.hid (cell_keep D18.out hb)
            replace Dg := Lib.hid (Dg.out.later hb)
            replace Dl := Lib.hid (Dl.out.later hb)
            replace Dp := Lib.hid (Dp.out.later hb)
            replace Do := Lib.hid (Do.out.later hb)
            replace Dw := Lib.hid (Dw.out.later hb)
            clear hb
            obtain ⟨D18_0, D18_1, D18_2⟩ := cell2 D18.out
            go_wp2_with fail
            refine (holder_any _ b k _ Db.out BV.out).mono ?_
            rintro e Y13 ⟨rfl, hb⟩
            clear D18_0 D18_1 D18_2
            rw [← YV.out]
            replace HW := Lib.hid (below_trans HW.out hb)
            replace Da := Lib.hid (Da.out.later hb)
            replace Db := Lib.hid (Db.out.later hb)
            replace D18 := Lib.hid (cell_keep D18.out hb)
            replace Dg := Lib.hid (Dg.out.later hb)
            replace Dl := Lib.hid (Dl.out.later hb)
            replace Dp := Lib.hid (Dp.out.later hb)
            replace Do := Lib.hid (Do.out.later hb)
            replace Dw := Lib.hid (Dw.out.later hb)
            clear hb
            obtain ⟨D18_0, D18_1, D18_2⟩ := cell2 D18.out
            go_wp2_with fail
            refine (holder_any _ b k _ Db.out BV.out).mono ?_
            rintro e Y14 ⟨rfl, hb⟩
            clear D18_0 D18_1 D18_2
            rw [← YV.out]
            replace HW := Lib.hid (below_trans HW.out hb)
            replace Da := Lib.hid (Da.out.later hb)
            replace Db := Lib.hid (Db.out.later hb)
            replace D18 := Lib.hid (cell_keep D18.out hb)
            replace Dg := Lib.hid (Dg.out.later hb)
            replace Dl := Lib.hid (Dl.out.later hb)
            replace Dp := Lib.hid (Dp.out.later hb)
            replace Do := Lib.hid (Do.out.later hb)
            replace Dw := Lib.hid (Dw.out.later hb)
            clear hb
            obtain ⟨D18_0, D18_1, D18_2⟩ := cell2 D18.out
            go_wp2_with fail
            refine (holder_any _ gg k _ Dg.out GV.out).mono ?_
            rintro e Y15 ⟨rfl, hb⟩
            clear D18_0 D18_1 D18_2
            rw [G1.out]
            replace HW := Lib.hid (below_trans HW.out hb)
            replace Da := Lib.hid (Da.out.later hb)
            replace Db := Lib.hid (Db.out.later hb)
            replace D18 := Lib.hid (cell_keep D18.out hb)
            replace Dg := Lib.hid (Dg.out.later hb)
            replace Dl := Lib.hid (Dl.out.later hb)
            replace Dp := Lib.hid (Dp.out.later hb)
            replace Do := Lib.hid (Do.out.later hb)
            replace Dw := Lib.hid (Dw.out.later hb)
            clear hb
            obtain ⟨D18_0, D18_1, D18_2⟩ := cell2 D18.out
            go_wp2_with fail
            refine (holder_any _ le k _ Dl.out LV.out).mono ?_
            rintro e Y16 ⟨rfl, hb⟩
            clear D18_0 D18_1 D18_2
            rw [G2.out]
            replace HW := Lib.hid (below_trans HW.out hb)
            replace Da := Lib.hid (Da.out.later hb)
            replace Db := Lib.hid (Db.out.later hb)
            replace D18 := Lib.hid (cell_keep D18.out hb)
            replace Dg := Lib.hid (Dg.out.later hb)
            replace Dl := Lib.hid (Dl.out.later hb)
            replace Dp := Lib.hid (Dp.out.later hb)
            replace Do := Lib.hid (Do.out.later hb)
            replace Dw := Lib.hid (Dw.out.later hb)
            clear hb
            obtain ⟨D18_0, D18_1, D18_2⟩ := cell2 D18.out
            go_wp2_with fail
            refine (holder_any _ pa k _ Dp.out PV.out).mono ?_
            rintro e Y17 ⟨rfl, hb⟩
            clear D18_0 D18_1 D18_2
            rw [G3.out]
            replace HW := Lib.hid (below_trans HW.out hb)
            replace Da := Lib.hid (Da.out.later hb)
            replace Db := Lib.hid (Db.out.later hb)
            replace D18 := Lib.hid (cell_keep D18.out hb)
            replace Dg := Lib.hid (Dg.out.later hb)
            replace Dl := Lib.hid (Dl.out.later hb)
            replace Dp := Lib.hid (Dp.out.later hb)
            replace Do := Lib.hid (Do.out.later hb)
            replace Dw := Lib.hid (Dw.out.later hb)
            clear hb
            obtain ⟨D18_0, D18_1, D18_2⟩ := cell2 D18.out
            go_wp2_with fail
            refine (holder_any _ ov k _ Do.out OV.out).mono ?_
            rintro e Y18 ⟨rfl, hb⟩
            clear D18_0 D18_1 D18_2
            rw [G4.out]
            replace HW := Lib.hid (below_trans HW.out hb)
            replace Da := Lib.hid (Da.out.later hb)
            replace Db := Lib.hid (Db.out.later hb)
            replace D18 := Lib.hid (cell_keep D18.out hb)
            replace Dg := Lib.hid (Dg.out.later hb)
            replace Dl := Lib.hid (Dl.out.later hb)
            replace Dp := Lib.hid (Dp.out.later hb)
            replace Do := Lib.hid (Do.out.later hb)
            replace Dw := Lib.hid (Dw.out.later hb)
            clear hb
            obtain ⟨D18_0, D18_1, D18_2⟩ := cell2 D18.out
            go_wp2_with fail
            refine (holder_any _ ww k _ Dw.out WV.out).mono ?_
            rintro e Y19 ⟨rfl, hb⟩
            clear D18_0 D18_1 D18_2
            rw [G5.out]
            replace HW := Lib.hid (below_trans HW.out hb)
            replace Da := Lib.hid (Da.out.later hb)
            replace Db := Lib.hid (Db.out.later hb)
            replace D18 := Lib.hid (cell_keep D18.out hb)
            replace Dg := Lib.hid (Dg.out.later hb)
            replace Dl := Lib.hid (Dl.out.later hb)
            replace Dp := Lib.hid (Dp.out.later hb)
            replace Do := Lib.hid (Do.out.later hb)
            replace Dw := Lib.hid (Dw.out.later hb)
            clear hb
            go_wp2_with fail
            exact ⟨⟨j + 1, by omega, by go_num, HW.out⟩, by simp [intOf]; omega⟩
        · as_aux_lemma =>
            have IN := Lib.hid (show inR p p' k = true by simp [inR]; omega)
            have G1 := Lib.hid (show hold gg k = v by rw [H1.out, if_pos (by omega)])
            have G2 := Lib.hid (show hold le k = -1 by rw [H2.out, if_pos (by omega)])
            have G3 := Lib.hid (show hold pa k = x by rw [H3.out, if_pos (by omega), ← X0.out])
            have G4 := Lib.hid (show hold ov k = y by rw [H4.out, ← X0.out, ← YV.out, if_neg (by omega)])
            have G5 := Lib.hid (show hold ww k = x by rw [H5.out, ← X0.out, if_neg (by omega)])
            have tu : (x == u) = false := by rw [beq_eq_false_iff_ne]; omega
            have hyn : 0 ≤ y := by omega
            have hk0 : 0 ≤ k := by omega
            have hk9 : k ≤ 99999999 := by omega
            clear hyy hxu
            obtain ⟨D18_0, D18_1, D18_2⟩ := cell2 D18.out
            go_wp2_with fail
            refine (in_any p p' k _).mono ?_
            rintro e Y12 ⟨rfl, hb⟩
            clear D18_0 D18_1 D18_2
            rw [IN.out]
            replace HW := Lib.hid (below_trans HW.out hb)
            replace Da := Lib.hid (Da.out.later hb)
            replace Db := Lib.hid (Db.out.later hb)
            replace D18 := Lib.hid (cell_keep D18.out hb)
            replace Dg := Lib.hid (Dg.out.later hb)
            replace Dl := Lib.hid (Dl.out.later hb)
            replace Dp := Lib.hid (Dp.out.later hb)
            replace Do := Lib.hid (Do.out.later hb)
            replace Dw := Lib.hid (Dw.out.later hb)
            clear hb
            obtain ⟨D18_0, D18_1, D18_2⟩ := cell2 D18.out
            go_wp2_with fail
            refine (holder_any _ b k _ Db.out BV.out).mono ?_
            rintro e Y13 ⟨rfl, hb⟩
            clear D18_0 D18_1 D18_2
            rw [← YV.out]
            replace HW := Lib.hid (below_trans HW.out hb)
            replace Da := Lib.hid (Da.out.later hb)
            replace Db := Lib.hid (Db.out.later hb)
            replace D18 := Lib.hid (cell_keep D18.out hb)
            replace Dg := Lib.hid (Dg.out.later hb)
            replace Dl := Lib.hid (Dl.out.later hb)
            replace Dp := Lib.hid (Dp.out.later hb)
            replace Do := Lib.hid (Do.out.later hb)
            replace Dw := Lib.hid (Dw.out.later hb)
            clear hb
            obtain ⟨D18_0, D18_1, D18_2⟩ := cell2 D18.out
            go_wp2_with fail
            refine (holder_any _ b k _ Db.out BV.out).mono ?_
            rintro e Y14 ⟨rfl, hb⟩
            clear D18_0 D18_1 D18_2
            rw [← YV.out]
            replace HW := Lib.hid (below_trans HW.out hb)
            replace Da := Lib.hid (Da.out.later hb)
            replace Db := Lib.hid (Db.out.later hb)
            replace D18 := Lib.hid (cell_keep D18.out hb)
            replace Dg := Lib.hid (Dg.out.later hb)
            replace Dl := Lib.hid (Dl.out.later hb)
            replace Dp := Lib.hid (Dp.out.later hb)
            replace Do := Lib.hid (Do.out.later hb)
            replace Dw := Lib.hid (Dw.out.later hb)
            clear hb
            obtain ⟨D18_0, D18_1, D18_2⟩ := cell2 D18.out
            go_wp2_with fail
            refine (holder_any _ gg k _ Dg.out GV.out).mono ?_
            rintro e Y15 ⟨rfl, hb⟩
            clear D18_0 D18_1 D18_2
            rw [G1.out]
            replace HW := Lib.hid (below_trans HW.out hb)
            replace Da := Lib.hid (Da.out.later hb)
            replace Db := Lib.hid (Db.out.later hb)
            replace D18 := Lib.hid (cell_keep D18.out hb)
            replace Dg := Lib.hid (Dg.out.later hb)
            replace Dl := Lib.hid (Dl.out.later hb)
            replace Dp := Lib.hid (Dp.out.later hb)
            replace Do := Lib.hid (Do.out.later hb)
            replace Dw := Lib.hid (Dw.out.later hb)
            clear hb
            obtain ⟨D18_0, D18_1, D18_2⟩ := cell2 D18.out
            go_wp2_with fail
            refine (holder_any _ le k _ Dl.out LV.out).mono ?_
            rintro e Y16 ⟨rfl, hb⟩
            clear D18_0 D18_1 D18_2
            rw [G2.out]
            replace HW := Lib.hid (below_trans HW.out hb)
            replace Da := Lib.hid (Da.out.later hb)
            replace Db := Lib.hid (Db.out.later hb)
            replace D18 := Lib.hid (cell_keep D18.out hb)
            replace Dg := Lib.hid (Dg.out.later hb)
            replace Dl := Lib.hid (Dl.out.later hb)
            replace Dp := Lib.hid (Dp.out.later hb)
            replace Do := Lib.hid (Do.out.later hb)
            replace Dw := Lib.hid (Dw.out.later hb)
            clear hb
            obtain ⟨D18_0, D18_1, D18_2⟩ := cell2 D18.out
            go_wp2_with fail
            refine (holder_any _ pa k _ Dp.out PV.out).mono ?_
            rintro e Y17 ⟨rfl, hb⟩
            clear D18_0 D18_1 D18_2
            rw [G3.out]
            replace HW := Lib.hid (below_trans HW.out hb)
            replace Da := Lib.hid (Da.out.later hb)
            replace Db := Lib.hid (Db.out.later hb)
            replace D18 := Lib.hid (cell_keep D18.out hb)
            replace Dg := Lib.hid (Dg.out.later hb)
            replace Dl := Lib.hid (Dl.out.later hb)
            replace Dp := Lib.hid (Dp.out.later hb)
            replace Do := Lib.hid (Do.out.later hb)
            replace Dw := Lib.hid (Dw.out.later hb)
            clear hb
            obtain ⟨D18_0, D18_1, D18_2⟩ := cell2 D18.out
            go_wp2_with fail
            refine (holder_any _ ov k _ Do.out OV.out).mono ?_
            rintro e Y18 ⟨rfl, hb⟩
            clear D18_0 D18_1 D18_2
            rw [G4.out]
            replace HW := Lib.hid (below_trans HW.out hb)
            replace Da := Lib.hid (Da.out.later hb)
            replace Db := Lib.hid (Db.out.later hb)
            replace D18 := Lib.hid (cell_keep D18.out hb)
            replace Dg := Lib.hid (Dg.out.later hb)
            replace Dl := Lib.hid (Dl.out.later hb)
            replace Dp := Lib.hid (Dp.out.later hb)
            replace Do := Lib.hid (Do.out.later hb)
            replace Dw := Lib.hid (Dw.out.later hb)
            clear hb
            obtain ⟨D18_0, D18_1, D18_2⟩ := cell2 D18.out
            go_wp2_with fail
            refine (holder_any _ ww k _ Dw.out WV.out).mono ?_
            rintro e Y19 ⟨rfl, hb⟩
            clear D18_0 D18_1 D18_2
            rw [G5.out]
            replace HW := Lib.hid (below_trans HW.out hb)
            replace Da := Lib.hid (Da.out.later hb)
            replace Db := Lib.hid (Db.out.later hb)
            replace D18 := Lib.hid (cell_keep D18.out hb)
            replace Dg := Lib.hid (Dg.out.later hb)
            replace Dl := Lib.hid (Dl.out.later hb)
            replace Dp := Lib.hid (Dp.out.later hb)
            replace Do := Lib.hid (Do.out.later hb)
            replace Dw := Lib.hid (Dw.out.later hb)
            clear hb
            go_wp2_with fail
            exact ⟨⟨j + 1, by omega, by go_num, HW.out⟩, by simp [intOf]; omega⟩
    · by_cases hob : 0 ≤ k ∧ k ≤ 99999999
      · by_cases hyy : y = -1
        · by_cases hxu : x = u
          · as_aux_lemma =>
              have IN := Lib.hid (show inR p p' k = false by simp [inR]; omega)
              have G1 := Lib.hid (show hold gg k = x by rw [H1.out, if_neg (by omega), ← X0.out])
              have G2 := Lib.hid (show hold le k = x by rw [H2.out, if_neg (by omega), ← X0.out])
              have G3 := Lib.hid (show hold pa k = -1 by rw [H3.out, if_neg (by omega)])
              have G4 := Lib.hid (show hold ov k = x by rw [H4.out, ← X0.out, ← YV.out, if_pos (by omega)])
              have G5 := Lib.hid (show hold ww k = v by rw [H5.out, ← X0.out, if_pos (by omega)])
              have tu : (x == u) = true := by rw [beq_iff_eq]; omega
              have hyn : y < 0 := by omega
              have hk0 : 0 ≤ k := by omega
              have hk9 : k ≤ 99999999 := by omega
              clear hyy hxu
              obtain ⟨D18_0, D18_1, D18_2⟩ := cell2 D18.out
              go_wp2_with fail
              refine (in_any p p' k _).mono ?_
              rintro e Y12 ⟨rfl, hb⟩
              clear D18_0 D18_1 D18_2
              rw [IN.out]
              replace HW := Lib.hid (below_trans HW.out hb)
              replace Da := Lib.hid (Da.out.later hb)
              replace Db := Lib.hid (Db.out.later hb)
              replace D18 := Lib.hid (cell_keep D18.out hb)
              replace Dg := Lib.hid (Dg.out.later hb)
              replace Dl := Lib.hid (Dl.out.later hb)
              replace Dp := Lib.hid (Dp.out.later hb)
              replace Do := Lib.hid (Do.out.later hb)
              replace Dw := Lib.hid (Dw.out.later hb)
              clear hb
              obtain ⟨D18_0, D18_1, D18_2⟩ := cell2 D18.out
              go_wp2_with fail
              refine (holder_any _ b k _ Db.out BV.out).mono ?_
              rintro e Y13 ⟨rfl, hb⟩
              clear D18_0 D18_1 D18_2
              rw [← YV.out]
              replace HW := Lib.hid (below_trans HW.out hb)
              replace Da := Lib.hid (Da.out.later hb)
              replace Db := Lib.hid (Db.out.later hb)
              replace D18 := Lib.hid (cell_keep D18.out hb)
              replace Dg := Lib.hid (Dg.out.later hb)
              replace Dl := Lib.hid (Dl.out.later hb)
              replace Dp := Lib.hid (Dp.out.later hb)
              replace Do := Lib.hid (Do.out.later hb)
              replace Dw := Lib.hid (Dw.out.later hb)
              clear hb
              obtain ⟨D18_0, D18_1, D18_2⟩ := cell2 D18.out
              go_wp2_with fail
              refine (holder_any _ gg k _ Dg.out GV.out).mono ?_
              rintro e Y14 ⟨rfl, hb⟩
              clear D18_0 D18_1 D18_2
              rw [G1.out]
              replace HW := Lib.hid (below_trans HW.out hb)
              replace Da := Lib.hid (Da.out.later hb)
              replace Db := Lib.hid (Db.out.later hb)
              replace D18 := Lib.hid (cell_keep D18.out hb)
              replace Dg := Lib.hid (Dg.out.later hb)
              replace Dl := Lib.hid (Dl.out.later hb)
              replace Dp := Lib.hid (Dp.out.later hb)
              replace Do := Lib.hid (Do.out.later hb)
              replace Dw := Lib.hid (Dw.out.later hb)
              clear hb
              obtain ⟨D18_0, D18_1, D18_2⟩ := cell2 D18.out
              go_wp2_with fail
              refine (holder_any _ le k _ Dl.out LV.out).mono ?_
              rintro e Y15 ⟨rfl, hb⟩
              clear D18_0 D18_1 D18_2
              rw [G2.out]
              replace HW := Lib.hid (below_trans HW.out hb)
              replace Da := Lib.hid (Da.out.later hb)
              replace Db := Lib.hid (Db.out.later hb)
              replace D18 := Lib.hid (cell_keep D18.out hb)
              replace Dg := Lib.hid (Dg.out.later hb)
              replace Dl := Lib.hid (Dl.out.later hb)
              replace Dp := Lib.hid (Dp.out.later hb)
              replace Do := Lib.hid (Do.out.later hb)
              replace Dw := Lib.hid (Dw.out.later hb)
              clear hb
              obtain ⟨D18_0, D18_1, D18_2⟩ := cell2 D18.out
              go_wp2_with fail
              refine (holder_any _ pa k _ Dp.out PV.out).mono ?_
              rintro e Y16 ⟨rfl, hb⟩
              clear D18_0 D18_1 D18_2
              rw [G3.out]
              replace HW := Lib.hid (below_trans HW.out hb)
              replace Da := Lib.hid (Da.out.later hb)
              replace Db := Lib.hid (Db.out.later hb)
              replace D18 := Lib.hid (cell_keep D18.out hb)
              replace Dg := Lib.hid (Dg.out.later hb)
              replace Dl := Lib.hid (Dl.out.later hb)
              replace Dp := Lib.hid (Dp.out.later hb)
              replace Do := Lib.hid (Do.out.later hb)
              replace Dw := Lib.hid (Dw.out.later hb)
              clear hb
              obtain ⟨D18_0, D18_1, D18_2⟩ := cell2 D18.out
              go_wp2_with fail
              refine (holder_any _ ov k _ Do.out OV.out).mono ?_
              rintro e Y17 ⟨rfl, hb⟩
              clear D18_0 D18_1 D18_2
              rw [G4.out]
              replace HW := Lib.hid (below_trans HW.out hb)
              replace Da := Lib.hid (Da.out.later hb)
              replace Db := Lib.hid (Db.out.later hb)
              replace D18 := Lib.hid (cell_keep D18.out hb)
              replace Dg := Lib.hid (Dg.out.later hb)
              replace Dl := Lib.hid (Dl.out.later hb)
              replace Dp := Lib.hid (Dp.out.later hb)
              replace Do := Lib.hid (Do.out.later hb)
              replace Dw := Lib.hid (Dw.out.later hb)
              clear hb
              obtain ⟨D18_0, D18_1, D18_2⟩ := cell2 D18.out
              go_wp2_with fail
              refine (holder_any _ ww k _ Dw.out WV.out).mono ?_
              rintro e Y18 ⟨rfl, hb⟩
              clear D18_0 D18_1 D18_2
              rw [G5.out]
              replace HW := Lib.hid (below_trans HW.out hb)
              replace Da := Lib.hid (Da.out.later hb)
              replace Db := Lib.hid (Db.out.later hb)
              replace D18 := Lib.hid (cell_keep D18.out hb)
              replace Dg := Lib.hid (Dg.out.later hb)
              replace Dl := Lib.hid (Dl.out.later hb)
              replace Dp := Lib.hid (Dp.out.later hb)
              replace Do := Lib.hid (Do.out.later hb)
              replace Dw := Lib.hid (Dw.out.later hb)
              clear hb
              go_wp2_with fail
              exact ⟨⟨j + 1, by omega, by go_num, HW.out⟩, by simp [intOf]; omega⟩
          · as_aux_lemma =>
              have IN := Lib.hid (show inR p p' k = false by simp [inR]; omega)
              have G1 := Lib.hid (show hold gg k = x by rw [H1.out, if_neg (by omega), ← X0.out])
              have G2 := Lib.hid (show hold le k = x by rw [H2.out, if_neg (by omega), ← X0.out])
              have G3 := Lib.hid (show hold pa k = -1 by rw [H3.out, if_neg (by omega)])
              have G4 := Lib.hid (show hold ov k = x by rw [H4.out, ← X0.out, ← YV.out, if_pos (by omega)])
              have G5 := Lib.hid (show hold ww k = x by rw [H5.out, ← X0.out, if_neg (by omega)])
              have tu : (x == u) = false := by rw [beq_eq_false_iff_ne]; omega
              have hyn : y < 0 := by omega
              have hk0 : 0 ≤ k := by omega
              have hk9 : k ≤ 99999999 := by omega
              clear hyy hxu
              obtain ⟨D18_0, D18_1, D18_2⟩ := cell2 D18.out
              go_wp2_with fail
              refine (in_any p p' k _).mono ?_
              rintro e Y12 ⟨rfl, hb⟩
              clear D18_0 D18_1 D18_2
              rw [IN.out]
              replace HW := Lib.hid (below_trans HW.out hb)
              replace Da := Lib.hid (Da.out.later hb)
              replace Db := Lib.hid (Db.out.later hb)
              replace D18 := Lib.hid (cell_keep D18.out hb)
              replace Dg := Lib.hid (Dg.out.later hb)
              replace Dl := Lib.hid (Dl.out.later hb)
              replace Dp := Lib.hid (Dp.out.later hb)
              replace Do := Lib.hid (Do.out.later hb)
              replace Dw := Lib.hid (Dw.out.later hb)
              clear hb
              obtain ⟨D18_0, D18_1, D18_2⟩ := cell2 D18.out
              go_wp2_with fail
              refine (holder_any _ b k _ Db.out BV.out).mono ?_
              rintro e Y13 ⟨rfl, hb⟩
              clear D18_0 D18_1 D18_2
              rw [← YV.out]
              replace HW := Lib.hid (below_trans HW.out hb)
              replace Da := Lib.hid (Da.out.later hb)
              replace Db := Lib.hid (Db.out.later hb)
              replace D18 := Lib.hid (cell_keep D18.out hb)
              replace Dg := Lib.hid (Dg.out.later hb)
              replace Dl := Lib.hid (Dl.out.later hb)
              replace Dp := Lib.hid (Dp.out.later hb)
              replace Do := Lib.hid (Do.out.later hb)
              replace Dw := Lib.hid (Dw.out.later hb)
              clear hb
              obtain ⟨D18_0, D18_1, D18_2⟩ := cell2 D18.out
              go_wp2_with fail
              refine (holder_any _ gg k _ Dg.out GV.out).mono ?_
              rintro e Y14 ⟨rfl, hb⟩
              clear D18_0 D18_1 D18_2
              rw [G1.out]
              replace HW := Lib.hid (below_trans HW.out hb)
              replace Da := Lib.hid (Da.out.later hb)
              replace Db := Lib.hid (Db.out.later hb)
              replace D18 := Lib.hid (cell_keep D18.out hb)
              replace Dg := Lib.hid (Dg.out.later hb)
              replace Dl := Lib.hid (Dl.out.later hb)
              replace Dp := Lib.hid (Dp.out.later hb)
              replace Do := Lib.hid (Do.out.later hb)
              replace Dw := Lib.hid (Dw.out.later hb)
              clear hb
              obtain ⟨D18_0, D18_1, D18_2⟩ := cell2 D18.out
              go_wp2_with fail
              refine (holder_any _ le k _ Dl.out LV.out).mono ?_
              rintro e Y15 ⟨rfl, hb⟩
              clear D18_0 D18_1 D18_2
              rw [G2.out]
              replace HW := Lib.hid (below_trans HW.out hb)
              replace Da := Lib.hid (Da.out.later hb)
              replace Db := Lib.hid (Db.out.later hb)
              replace D18 := Lib.hid (cell_keep D18.out hb)
              replace Dg := Lib.hid (Dg.out.later hb)
              replace Dl := Lib.hid (Dl.out.later hb)
              replace Dp := Lib.hid (Dp.out.later hb)
              replace Do := Lib.hid (Do.out.later hb)
              replace Dw := Lib.hid (Dw.out.later hb)
              clear hb
              obtain ⟨D18_0, D18_1, D18_2⟩ := cell2 D18.out
              go_wp2_with fail
              refine (holder_any _ pa k _ Dp.out PV.out).mono ?_
              rintro e Y16 ⟨rfl, hb⟩
              clear D18_0 D18_1 D18_2
              rw [G3.out]
              replace HW := Lib.hid (below_trans HW.out hb)
              replace Da := Lib.hid (Da.out.later hb)
              replace Db := Lib.hid (Db.out.later hb)
              replace D18 := Lib.hid (cell_keep D18.out hb)
              replace Dg := Lib.hid (Dg.out.later hb)
              replace Dl := Lib.hid (Dl.out.later hb)
              replace Dp := Lib.hid (Dp.out.later hb)
              replace Do := Lib.hid (Do.out.later hb)
              replace Dw := Lib.hid (Dw.out.later hb)
              clear hb
              obtain ⟨D18_0, D18_1, D18_2⟩ := cell2 D18.out
              go_wp2_with fail
              refine (holder_any _ ov k _ Do.out OV.out).mono ?_
              rintro e Y17 ⟨rfl, hb⟩
              clear D18_0 D18_1 D18_2
              rw [G4.out]
              replace HW := Lib.hid (below_trans HW.out hb)
              replace Da := Lib.hid (Da.out.later hb)
              replace Db := Lib.hid (Db.out.later hb)
              replace D18 := Lib.hid (cell_keep D18.out hb)
              replace Dg := Lib.hid (Dg.out.later hb)
              replace Dl := Lib.hid (Dl.out.later hb)
              replace Dp := Lib.hid (Dp.out.later hb)
              replace Do := Lib.hid (Do.out.later hb)
              replace Dw := Lib.hid (Dw.out.later hb)
              clear hb
              obtain ⟨D18_0, D18_1, D18_2⟩ := cell2 D18.out
              go_wp2_with fail
              refine (holder_any _ ww k _ Dw.out WV.out).mono ?_
              rintro e Y18 ⟨rfl, hb⟩
              clear D18_0 D18_1 D18_2
              rw [G5.out]
              replace HW := Lib.hid (below_trans HW.out hb)
              replace Da := Lib.hid (Da.out.later hb)
              replace Db := Lib.hid (Db.out.later hb)
              replace D18 := Lib.hid (cell_keep D18.out hb)
              replace Dg := Lib.hid (Dg.out.later hb)
              replace Dl := Lib.hid (Dl.out.later hb)
              replace Dp := Lib.hid (Dp.out.later hb)
              replace Do := Lib.hid (Do.out.later hb)
              replace Dw := Lib.hid (Dw.out.later hb)
              clear hb
              go_wp2_with fail
              exact ⟨⟨j + 1, by omega, by go_num, HW.out⟩, by simp [intOf]; omega⟩
        · by_cases hxu : x = u
          · as_aux_lemma =>
              have IN := Lib.hid (show inR p p' k = false by simp [inR]; omega)
              have G1 := Lib.hid (show hold gg k = x by rw [H1.out, if_neg (by omega), ← X0.out])
              have G2 := Lib.hid (show hold le k = x by rw [H2.out, if_neg (by omega), ← X0.out])
              have G3 := Lib.hid (show hold pa k = -1 by rw [H3.out, if_neg (by omega)])
              have G4 := Lib.hid (show hold ov k = y by rw [H4.out, ← X0.out, ← YV.out, if_neg (by omega)])
              have G5 := Lib.hid (show hold ww k = v by rw [H5.out, ← X0.out, if_pos (by omega)])
              have tu : (x == u) = true := by rw [beq_iff_eq]; omega
              have hyn : 0 ≤ y := by omega
              have hk0 : 0 ≤ k := by omega
              have hk9 : k ≤ 99999999 := by omega
              clear hyy hxu
              obtain ⟨D18_0, D18_1, D18_2⟩ := cell2 D18.out
              go_wp2_with fail
              refine (in_any p p' k _).mono ?_
              rintro e Y12 ⟨rfl, hb⟩
              clear D18_0 D18_1 D18_2
              rw [IN.out]
              replace HW := Lib.hid (below_trans HW.out hb)
              replace Da := Lib.hid (Da.out.later hb)
              replace Db := Lib.hid (Db.out.later hb)
              replace D18 := Lib.hid (cell_keep D18.out hb)
              replace Dg := Lib.hid (Dg.out.later hb)
              replace Dl := Lib.hid (Dl.out.later hb)
              replace Dp := Lib.hid (Dp.out.later hb)
              replace Do := Lib.hid (Do.out.later hb)
              replace Dw := Lib.hid (Dw.out.later hb)
              clear hb
              obtain ⟨D18_0, D18_1, D18_2⟩ := cell2 D18.out
              go_wp2_with fail
              refine (holder_any _ b k _ Db.out BV.out).mono ?_
              rintro e Y13 ⟨rfl, hb⟩
              clear D18_0 D18_1 D18_2
              rw [← YV.out]
              replace HW := Lib.hid (below_trans HW.out hb)
              replace Da := Lib.hid (Da.out.later hb)
              replace Db := Lib.hid (Db.out.later hb)
              replace D18 := Lib.hid (cell_keep D18.out hb)
              replace Dg := Lib.hid (Dg.out.later hb)
              replace Dl := Lib.hid (Dl.out.later hb)
              replace Dp := Lib.hid (Dp.out.later hb)
              replace Do := Lib.hid (Do.out.later hb)
              replace Dw := Lib.hid (Dw.out.later hb)
              clear hb
              obtain ⟨D18_0, D18_1, D18_2⟩ := cell2 D18.out
              go_wp2_with fail
              refine (holder_any _ b k _ Db.out BV.out).mono ?_
              rintro e Y14 ⟨rfl, hb⟩
              clear D18_0 D18_1 D18_2
              rw [← YV.out]
              replace HW := Lib.hid (below_trans HW.out hb)
              replace Da := Lib.hid (Da.out.later hb)
              replace Db := Lib.hid (Db.out.later hb)
              replace D18 := Lib.hid (cell_keep D18.out hb)
              replace Dg := Lib.hid (Dg.out.later hb)
              replace Dl := Lib.hid (Dl.out.later hb)
              replace Dp := Lib.hid (Dp.out.later hb)
              replace Do := Lib.hid (Do.out.later hb)
              replace Dw := Lib.hid (Dw.out.later hb)
              clear hb
              obtain ⟨D18_0, D18_1, D18_2⟩ := cell2 D18.out
              go_wp2_with fail
              refine (holder_any _ gg k _ Dg.out GV.out).mono ?_
              rintro e Y15 ⟨rfl, hb⟩
              clear D18_0 D18_1 D18_2
              rw [G1.out]
              replace HW := Lib.hid (below_trans HW.out hb)
              replace Da := Lib.hid (Da.out.later hb)
              replace Db := Lib.hid (Db.out.later hb)
              replace D18 := Lib.hid (cell_keep D18.out hb)
              replace Dg := Lib.hid (Dg.out.later hb)
              replace Dl := Lib.hid (Dl.out.later hb)
              replace Dp := Lib.hid (Dp.out.later hb)
              replace Do := Lib.hid (Do.out.later hb)
              replace Dw := Lib.hid (Dw.out.later hb)
              clear hb
              obtain ⟨D18_0, D18_1, D18_2⟩ := cell2 D18.out
              go_wp2_with fail
              refine (holder_any _ le k _ Dl.out LV.out).mono ?_
              rintro e Y16 ⟨rfl, hb⟩
              clear D18_0 D18_1 D18_2
              rw [G2.out]
              replace HW := Lib.hid (below_trans HW.out hb)
              replace Da := Lib.hid (Da.out.later hb)
              replace Db := Lib.hid (Db.out.later hb)
              replace D18 := Lib.hid (cell_keep D18.out hb)
              replace Dg := Lib.hid (Dg.out.later hb)
              replace Dl := Lib.hid (Dl.out.later hb)
              replace Dp := Lib.hid (Dp.out.later hb)
              replace Do := Lib.hid (Do.out.later hb)
              replace Dw := Lib.hid (Dw.out.later hb)
              clear hb
              obtain ⟨D18_0, D18_1, D18_2⟩ := cell2 D18.out
              go_wp2_with fail
              refine (holder_any _ pa k _ Dp.out PV.out).mono ?_
              rintro e Y17 ⟨rfl, hb⟩
              clear D18_0 D18_1 D18_2
              rw [G3.out]
              replace HW := Lib.hid (below_trans HW.out hb)
              replace Da := Lib.hid (Da.out.later hb)
              replace Db := Lib.hid (Db.out.later hb)
              replace D18 := Lib.hid (cell_keep D18.out hb)
              replace Dg := Lib.hid (Dg.out.later hb)
              replace Dl := Lib.hid (Dl.out.later hb)
              replace Dp := Lib.hid (Dp.out.later hb)
              replace Do := Lib.hid (Do.out.later hb)
              replace Dw := Lib.hid (Dw.out.later hb)
              clear hb
              obtain ⟨D18_0, D18_1, D18_2⟩ := cell2 D18.out
              go_wp2_with fail
              refine (holder_any _ ov k _ Do.out OV.out).mono ?_
              rintro e Y18 ⟨rfl, hb⟩
              clear D18_0 D18_1 D18_2
              rw [G4.out]
              replace HW := Lib.hid (below_trans HW.out hb)
              replace Da := Lib.hid (Da.out.later hb)
              replace Db := Lib.hid (Db.out.later hb)
              replace D18 := Lib.hid (cell_keep D18.out hb)
              replace Dg := Lib.hid (Dg.out.later hb)
              replace Dl := Lib.hid (Dl.out.later hb)
              replace Dp := Lib.hid (Dp.out.later hb)
              replace Do := Lib.hid (Do.out.later hb)
              replace Dw := Lib.hid (Dw.out.later hb)
              clear hb
              obtain ⟨D18_0, D18_1, D18_2⟩ := cell2 D18.out
              go_wp2_with fail
              refine (holder_any _ ww k _ Dw.out WV.out).mono ?_
              rintro e Y19 ⟨rfl, hb⟩
              clear D18_0 D18_1 D18_2
              rw [G5.out]
              replace HW := Lib.hid (below_trans HW.out hb)
              replace Da := Lib.hid (Da.out.later hb)
              replace Db := Lib.hid (Db.out.later hb)
              replace D18 := Lib.hid (cell_keep D18.out hb)
              replace Dg := Lib.hid (Dg.out.later hb)
              replace Dl := Lib.hid (Dl.out.later hb)
              replace Dp := Lib.hid (Dp.out.later hb)
              replace Do := Lib.hid (Do.out.later hb)
              replace Dw := Lib.hid (Dw.out.later hb)
              clear hb
              go_wp2_with fail
              exact ⟨⟨j + 1, by omega, by go_num, HW.out⟩, by simp [intOf]; omega⟩
          · as_aux_lemma =>
              have IN := Lib.hid (show inR p p' k = false by simp [inR]; omega)
              have G1 := Lib.hid (show hold gg k = x by rw [H1.out, if_neg (by omega), ← X0.out])
              have G2 := Lib.hid (show hold le k = x by rw [H2.out, if_neg (by omega), ← X0.out])
              have G3 := Lib.hid (show hold pa k = -1 by rw [H3.out, if_neg (by omega)])
              have G4 := Lib.hid (show hold ov k = y by rw [H4.out, ← X0.out, ← YV.out, if_neg (by omega)])
              have G5 := Lib.hid (show hold ww k = x by rw [H5.out, ← X0.out, if_neg (by omega)])
              have tu : (x == u) = false := by rw [beq_eq_false_iff_ne]; omega
              have hyn : 0 ≤ y := by omega
              have hk0 : 0 ≤ k := by omega
              have hk9 : k ≤ 99999999 := by omega
              clear hyy hxu
              obtain ⟨D18_0, D18_1, D18_2⟩ := cell2 D18.out
              go_wp2_with fail
              refine (in_any p p' k _).mono ?_
              rintro e Y12 ⟨rfl, hb⟩
              clear D18_0 D18_1 D18_2
              rw [IN.out]
              replace HW := Lib.hid (below_trans HW.out hb)
              replace Da := Lib.hid (Da.out.later hb)
              replace Db := Lib.hid (Db.out.later hb)
              replace D18 := Lib.hid (cell_keep D18.out hb)
              replace Dg := Lib.hid (Dg.out.later hb)
              replace Dl := Lib.hid (Dl.out.later hb)
              replace Dp := Lib.hid (Dp.out.later hb)
              replace Do := Lib.hid (Do.out.later hb)
              replace Dw := Lib.hid (Dw.out.later hb)
              clear hb
              obtain ⟨D18_0, D18_1, D18_2⟩ := cell2 D18.out
              go_wp2_with fail
              refine (holder_any _ b k _ Db.out BV.out).mono ?_
              rintro e Y13 ⟨rfl, hb⟩
              clear D18_0 D18_1 D18_2
              rw [← YV.out]
              replace HW := Lib.hid (below_trans HW.out hb)
              replace Da := Lib.hid (Da.out.later hb)
              replace Db := Lib.hid (Db.out.later hb)
              replace D18 := Lib.hid (cell_keep D18.out hb)
              replace Dg := Lib.hid (Dg.out.later hb)
              replace Dl := Lib.hid (Dl.out.later hb)
              replace Dp := Lib.hid (Dp.out.later hb)
              replace Do := Lib.hid (Do.out.later hb)
              replace Dw := Lib.hid (Dw.out.later hb)
              clear hb
              obtain ⟨D18_0, D18_1, D18_2⟩ := cell2 D18.out
              go_wp2_with fail
              refine (holder_any _ b k _ Db.out BV.out).mono ?_
              rintro e Y14 ⟨rfl, hb⟩
              clear D18_0 D18_1 D18_2
              rw [← YV.out]
              replace HW := Lib.hid (below_trans HW.out hb)
              replace Da := Lib.hid (Da.out.later hb)
              replace Db := Lib.hid (Db.out.later hb)
              replace D18 := Lib.hid (cell_keep D18.out hb)
              replace Dg := Lib.hid (Dg.out.later hb)
              replace Dl := Lib.hid (Dl.out.later hb)
              replace Dp := Lib.hid (Dp.out.later hb)
              replace Do := Lib.hid (Do.out.later hb)
              replace Dw := Lib.hid (Dw.out.later hb)
              clear hb
              obtain ⟨D18_0, D18_1, D18_2⟩ := cell2 D18.out
              go_wp2_with fail
              refine (holder_any _ gg k _ Dg.out GV.out).mono ?_
              rintro e Y15 ⟨rfl, hb⟩
              clear D18_0 D18_1 D18_2
              rw [G1.out]
              replace HW := Lib.hid (below_trans HW.out hb)
              replace Da := Lib.hid (Da.out.later hb)
              replace Db := Lib.hid (Db.out.later hb)
              replace D18 := Lib.hid (cell_keep D18.out hb)
              replace Dg := Lib.hid (Dg.out.later hb)
              replace Dl := Lib.hid (Dl.out.later hb)
              replace Dp := Lib.hid (Dp.out.later hb)
              replace Do := Lib.hid (Do.out.later hb)
              replace Dw := Lib.hid (Dw.out.later hb)
              clear hb
              obtain ⟨D18_0, D18_1, D18_2⟩ := cell2 D18.out
              go_wp2_with fail
              refine (holder_any _ le k _ Dl.out LV.out).mono ?_
              rintro e Y16 ⟨rfl, hb⟩
              clear D18_0 D18_1 D18_2
              rw [G2.out]
              replace HW := Lib.hid (below_trans HW.out hb)
              replace Da := Lib.hid (Da.out.later hb)
              replace Db := Lib.hid (Db.out.later hb)
              replace D18 := Lib.hid (cell_keep D18.out hb)
              replace Dg := Lib.hid (Dg.out.later hb)
              replace Dl := Lib.hid (Dl.out.later hb)
              replace Dp := Lib.hid (Dp.out.later hb)
              replace Do := Lib.hid (Do.out.later hb)
              replace Dw := Lib.hid (Dw.out.later hb)
              clear hb
              obtain ⟨D18_0, D18_1, D18_2⟩ := cell2 D18.out
              go_wp2_with fail
              refine (holder_any _ pa k _ Dp.out PV.out).mono ?_
              rintro e Y17 ⟨rfl, hb⟩
              clear D18_0 D18_1 D18_2
              rw [G3.out]
              replace HW := Lib.hid (below_trans HW.out hb)
              replace Da := Lib.hid (Da.out.later hb)
              replace Db := Lib.hid (Db.out.later hb)
              replace D18 := Lib.hid (cell_keep D18.out hb)
              replace Dg := Lib.hid (Dg.out.later hb)
              replace Dl := Lib.hid (Dl.out.later hb)
              replace Dp := Lib.hid (Dp.out.later hb)
              replace Do := Lib.hid (Do.out.later hb)
              replace Dw := Lib.hid (Dw.out.later hb)
              clear hb
              obtain ⟨D18_0, D18_1, D18_2⟩ := cell2 D18.out
              go_wp2_with fail
              refine (holder_any _ ov k _ Do.out OV.out).mono ?_
              rintro e Y18 ⟨rfl, hb⟩
              clear D18_0 D18_1 D18_2
              rw [G4.out]
              replace HW := Lib.hid (below_trans HW.out hb)
              replace Da := Lib.hid (Da.out.later hb)
              replace Db := Lib.hid (Db.out.later hb)
              replace D18 := Lib.hid (cell_keep D18.out hb)
              replace Dg := Lib.hid (Dg.out.later hb)
              replace Dl := Lib.hid (Dl.out.later hb)
              replace Dp := Lib.hid (Dp.out.later hb)
              replace Do := Lib.hid (Do.out.later hb)
              replace Dw := Lib.hid (Dw.out.later hb)
              clear hb
              obtain ⟨D18_0, D18_1, D18_2⟩ := cell2 D18.out
              go_wp2_with fail
              refine (holder_any _ ww k _ Dw.out WV.out).mono ?_
              rintro e Y19 ⟨rfl, hb⟩
              clear D18_0 D18_1 D18_2
              rw [G5.out]
              replace HW := Lib.hid (below_trans HW.out hb)
              replace Da := Lib.hid (Da.out.later hb)
              replace Db := Lib.hid (Db.out.later hb)
              replace D18 := Lib.hid (cell_keep D18.out hb)
              replace Dg := Lib.hid (Dg.out.later hb)
              replace Dl := Lib.hid (Dl.out.later hb)
              replace Dp := Lib.hid (Dp.out.later hb)
              replace Do := Lib.hid (Do.out.later hb)
              replace Dw := Lib.hid (Dw.out.later hb)
              clear hb
              go_wp2_with fail
              exact ⟨⟨j + 1, by omega, by go_num, HW.out⟩, by simp [intOf]; omega⟩
      · by_cases hyy : y = -1
        · by_cases hxu : x = u
          · exfalso
            exact absurd (hold_bd MA.out (n := k) (by rw [← X0.out]; omega)) (by omega)
          · as_aux_lemma =>
              have IN := Lib.hid (show inR p p' k = false by simp [inR]; omega)
              have G1 := Lib.hid (show hold gg k = x by rw [H1.out, if_neg (by omega), ← X0.out])
              have G2 := Lib.hid (show hold le k = x by rw [H2.out, if_neg (by omega), ← X0.out])
              have G3 := Lib.hid (show hold pa k = -1 by rw [H3.out, if_neg (by omega)])
              have G4 := Lib.hid (show hold ov k = x by rw [H4.out, ← X0.out, ← YV.out, if_pos (by omega)])
              have G5 := Lib.hid (show hold ww k = x by rw [H5.out, ← X0.out, if_neg (by omega)])
              have hx1 : x = -1 := by
                rcases Int.lt_or_le x 0 with h | h
                · omega
                · exact absurd (hold_bd MA.out (n := k) (by rw [← X0.out]; exact h)) (by omega)
              rw [hx1] at G1 G2 G5
              have TX1 := Lib.hid hx1
              have tu : (x == u) = false := by rw [beq_eq_false_iff_ne]; omega
              have hyn : y < 0 := by omega
              have hk9 : k < 0 ∨ 99999999 < k := by omega
              clear hyy hxu
              rcases hk9 with hk9 | hk9
              · obtain ⟨D18_0, D18_1, D18_2⟩ := cell2 D18.out
                go_wp2_with fail
                refine (in_any p p' k _).mono ?_
                rintro e Y12 ⟨rfl, hb⟩
                clear D18_0 D18_1 D18_2
                rw [IN.out]
                replace HW := Lib.hid (below_trans HW.out hb)
                replace Da := Lib.hid (Da.out.later hb)
                replace Db := Lib.hid (Db.out.later hb)
                replace D18 := Lib.hid (cell_keep D18.out hb)
                replace Dg := Lib.hid (Dg.out.later hb)
                replace Dl := Lib.hid (Dl.out.later hb)
                replace Dp := Lib.hid (Dp.out.later hb)
                replace Do := Lib.hid (Do.out.later hb)
                replace Dw := Lib.hid (Dw.out.later hb)
                clear hb
                obtain ⟨D18_0, D18_1, D18_2⟩ := cell2 D18.out
                go_wp2_with fail
                refine (holder_any _ b k _ Db.out BV.out).mono ?_
                rintro e Y13 ⟨rfl, hb⟩
                clear D18_0 D18_1 D18_2
                rw [← YV.out]
                replace HW := Lib.hid (below_trans HW.out hb)
                replace Da := Lib.hid (Da.out.later hb)
                replace Db := Lib.hid (Db.out.later hb)
                replace D18 := Lib.hid (cell_keep D18.out hb)
                replace Dg := Lib.hid (Dg.out.later hb)
                replace Dl := Lib.hid (Dl.out.later hb)
                replace Dp := Lib.hid (Dp.out.later hb)
                replace Do := Lib.hid (Do.out.later hb)
                replace Dw := Lib.hid (Dw.out.later hb)
                clear hb
                replace hx1 := TX1.out
                obtain ⟨D18_0, D18_1, D18_2⟩ := cell2 D18.out
                go_wp2_with fail
                refine (holder_any _ gg k _ Dg.out GV.out).mono ?_
                rintro e Y14 ⟨rfl, hb⟩
                clear D18_0 D18_1 D18_2
                rw [G1.out]
                replace HW := Lib.hid (below_trans HW.out hb)
                replace Da := Lib.hid (Da.out.later hb)
                replace Db := Lib.hid (Db.out.later hb)
                replace D18 := Lib.hid (cell_keep D18.out hb)
                replace Dg := Lib.hid (Dg.out.later hb)
                replace Dl := Lib.hid (Dl.out.later hb)
                replace Dp := Lib.hid (Dp.out.later hb)
                replace Do := Lib.hid (Do.out.later hb)
                replace Dw := Lib.hid (Dw.out.later hb)
                clear hb
                obtain ⟨D18_0, D18_1, D18_2⟩ := cell2 D18.out
                go_wp2_with fail
                refine (holder_any _ le k _ Dl.out LV.out).mono ?_
                rintro e Y15 ⟨rfl, hb⟩
                clear D18_0 D18_1 D18_2
                rw [G2.out]
                replace HW := Lib.hid (below_trans HW.out hb)
                replace Da := Lib.hid (Da.out.later hb)
                replace Db := Lib.hid (Db.out.later hb)
                replace D18 := Lib.hid (cell_keep D18.out hb)
                replace Dg := Lib.hid (Dg.out.later hb)
                replace Dl := Lib.hid (Dl.out.later hb)
                replace Dp := Lib.hid (Dp.out.later hb)
                replace Do := Lib.hid (Do.out.later hb)
                replace Dw := Lib.hid (Dw.out.later hb)
                clear hb
                obtain ⟨D18_0, D18_1, D18_2⟩ := cell2 D18.out
                go_wp2_with fail
                refine (holder_any _ pa k _ Dp.out PV.out).mono ?_
                rintro e Y16 ⟨rfl, hb⟩
                clear D18_0 D18_1 D18_2
                rw [G3.out]
                replace HW := Lib.hid (below_trans HW.out hb)
                replace Da := Lib.hid (Da.out.later hb)
                replace Db := Lib.hid (Db.out.later hb)
                replace D18 := Lib.hid (cell_keep D18.out hb)
                replace Dg := Lib.hid (Dg.out.later hb)
                replace Dl := Lib.hid (Dl.out.later hb)
                replace Dp := Lib.hid (Dp.out.later hb)
                replace Do := Lib.hid (Do.out.later hb)
                replace Dw := Lib.hid (Dw.out.later hb)
                clear hb
                obtain ⟨D18_0, D18_1, D18_2⟩ := cell2 D18.out
                go_wp2_with fail
                refine (holder_any _ ov k _ Do.out OV.out).mono ?_
                rintro e Y17 ⟨rfl, hb⟩
                clear D18_0 D18_1 D18_2
                rw [G4.out]
                replace HW := Lib.hid (below_trans HW.out hb)
                replace Da := Lib.hid (Da.out.later hb)
                replace Db := Lib.hid (Db.out.later hb)
                replace D18 := Lib.hid (cell_keep D18.out hb)
                replace Dg := Lib.hid (Dg.out.later hb)
                replace Dl := Lib.hid (Dl.out.later hb)
                replace Dp := Lib.hid (Dp.out.later hb)
                replace Do := Lib.hid (Do.out.later hb)
                replace Dw := Lib.hid (Dw.out.later hb)
                clear hb
                obtain ⟨D18_0, D18_1, D18_2⟩ := cell2 D18.out
                go_wp2_with fail
                refine (holder_any _ ww k _ Dw.out WV.out).mono ?_
                rintro e Y18 ⟨rfl, hb⟩
                clear D18_0 D18_1 D18_2
                rw [G5.out]
                replace HW := Lib.hid (below_trans HW.out hb)
                replace Da := Lib.hid (Da.out.later hb)
                replace Db := Lib.hid (Db.out.later hb)
                replace D18 := Lib.hid (cell_keep D18.out hb)
                replace Dg := Lib.hid (Dg.out.later hb)
                replace Dl := Lib.hid (Dl.out.later hb)
                replace Dp := Lib.hid (Dp.out.later hb)
                replace Do := Lib.hid (Do.out.later hb)
                replace Dw := Lib.hid (Dw.out.later hb)
                clear hb
                go_wp2_with fail
                exact ⟨⟨j + 1, by omega, by go_num, HW.out⟩, by simp [intOf]; omega⟩
              · have hk8 : 0 ≤ k := by omega
                obtain ⟨D18_0, D18_1, D18_2⟩ := cell2 D18.out
                go_wp2_with fail
                refine (in_any p p' k _).mono ?_
                rintro e Y12 ⟨rfl, hb⟩
                clear D18_0 D18_1 D18_2
                rw [IN.out]
                replace HW := Lib.hid (below_trans HW.out hb)
                replace Da := Lib.hid (Da.out.later hb)
                replace Db := Lib.hid (Db.out.later hb)
                replace D18 := Lib.hid (cell_keep D18.out hb)
                replace Dg := Lib.hid (Dg.out.later hb)
                replace Dl := Lib.hid (Dl.out.later hb)
                replace Dp := Lib.hid (Dp.out.later hb)
                replace Do := Lib.hid (Do.out.later hb)
                replace Dw := Lib.hid (Dw.out.later hb)
                clear hb
                obtain ⟨D18_0, D18_1, D18_2⟩ := cell2 D18.out
                go_wp2_with fail
                refine (holder_any _ b k _ Db.out BV.out).mono ?_
                rintro e Y13 ⟨rfl, hb⟩
                clear D18_0 D18_1 D18_2
                rw [← YV.out]
                replace HW := Lib.hid (below_trans HW.out hb)
                replace Da := Lib.hid (Da.out.later hb)
                replace Db := Lib.hid (Db.out.later hb)
                replace D18 := Lib.hid (cell_keep D18.out hb)
                replace Dg := Lib.hid (Dg.out.later hb)
                replace Dl := Lib.hid (Dl.out.later hb)
                replace Dp := Lib.hid (Dp.out.later hb)
                replace Do := Lib.hid (Do.out.later hb)
                replace Dw := Lib.hid (Dw.out.later hb)
                clear hb
                replace hx1 := TX1.out
                obtain ⟨D18_0, D18_1, D18_2⟩ := cell2 D18.out
                go_wp2_with fail
                refine (holder_any _ gg k _ Dg.out GV.out).mono ?_
                rintro e Y14 ⟨rfl, hb⟩
                clear D18_0 D18_1 D18_2
                rw [G1.out]
                replace HW := Lib.hid (below_trans HW.out hb)
                replace Da := Lib.hid (Da.out.later hb)
                replace Db := Lib.hid (Db.out.later hb)
                replace D18 := Lib.hid (cell_keep D18.out hb)
                replace Dg := Lib.hid (Dg.out.later hb)
                replace Dl := Lib.hid (Dl.out.later hb)
                replace Dp := Lib.hid (Dp.out.later hb)
                replace Do := Lib.hid (Do.out.later hb)
                replace Dw := Lib.hid (Dw.out.later hb)
                clear hb
                obtain ⟨D18_0, D18_1, D18_2⟩ := cell2 D18.out
                go_wp2_with fail
                refine (holder_any _ le k _ Dl.out LV.out).mono ?_
                rintro e Y15 ⟨rfl, hb⟩
                clear D18_0 D18_1 D18_2
                rw [G2.out]
                replace HW := Lib.hid (below_trans HW.out hb)
                replace Da := Lib.hid (Da.out.later hb)
                replace Db := Lib.hid (Db.out.later hb)
                replace D18 := Lib.hid (cell_keep D18.out hb)
                replace Dg := Lib.hid (Dg.out.later hb)
                replace Dl := Lib.hid (Dl.out.later hb)
                replace Dp := Lib.hid (Dp.out.later hb)
                replace Do := Lib.hid (Do.out.later hb)
                replace Dw := Lib.hid (Dw.out.later hb)
                clear hb
                obtain ⟨D18_0, D18_1, D18_2⟩ := cell2 D18.out
                go_wp2_with fail
                refine (holder_any _ pa k _ Dp.out PV.out).mono ?_
                rintro e Y16 ⟨rfl, hb⟩
                clear D18_0 D18_1 D18_2
                rw [G3.out]
                replace HW := Lib.hid (below_trans HW.out hb)
                replace Da := Lib.hid (Da.out.later hb)
                replace Db := Lib.hid (Db.out.later hb)
                replace D18 := Lib.hid (cell_keep D18.out hb)
                replace Dg := Lib.hid (Dg.out.later hb)
                replace Dl := Lib.hid (Dl.out.later hb)
                replace Dp := Lib.hid (Dp.out.later hb)
                replace Do := Lib.hid (Do.out.later hb)
                replace Dw := Lib.hid (Dw.out.later hb)
                clear hb
                obtain ⟨D18_0, D18_1, D18_2⟩ := cell2 D18.out
                go_wp2_with fail
                refine (holder_any _ ov k _ Do.out OV.out).mono ?_
                rintro e Y17 ⟨rfl, hb⟩
                clear D18_0 D18_1 D18_2
                rw [G4.out]
                replace HW := Lib.hid (below_trans HW.out hb)
                replace Da := Lib.hid (Da.out.later hb)
                replace Db := Lib.hid (Db.out.later hb)
                replace D18 := Lib.hid (cell_keep D18.out hb)
                replace Dg := Lib.hid (Dg.out.later hb)
                replace Dl := Lib.hid (Dl.out.later hb)
                replace Dp := Lib.hid (Dp.out.later hb)
                replace Do := Lib.hid (Do.out.later hb)
                replace Dw := Lib.hid (Dw.out.later hb)
                clear hb
                obtain ⟨D18_0, D18_1, D18_2⟩ := cell2 D18.out
                go_wp2_with fail
                refine (holder_any _ ww k _ Dw.out WV.out).mono ?_
                rintro e Y18 ⟨rfl, hb⟩
                clear D18_0 D18_1 D18_2
                rw [G5.out]
                replace HW := Lib.hid (below_trans HW.out hb)
                replace Da := Lib.hid (Da.out.later hb)
                replace Db := Lib.hid (Db.out.later hb)
                replace D18 := Lib.hid (cell_keep D18.out hb)
                replace Dg := Lib.hid (Dg.out.later hb)
                replace Dl := Lib.hid (Dl.out.later hb)
                replace Dp := Lib.hid (Dp.out.later hb)
                replace Do := Lib.hid (Do.out.later hb)
                replace Dw := Lib.hid (Dw.out.later hb)
                clear hb
                go_wp2_with fail
                exact ⟨⟨j + 1, by omega, by go_num, HW.out⟩, by simp [intOf]; omega⟩
        · exfalso
          exact absurd (hold_bd MB.out (n := k) (by rw [← YV.out]; omega)) (by omega)
  have hw2 := below_trans HW.out hbr
  go_wp2_with fail
  go_ret
  exact ⟨rfl, hw2⟩
end Go.Proofs.Ytmgippddljmfjaa
