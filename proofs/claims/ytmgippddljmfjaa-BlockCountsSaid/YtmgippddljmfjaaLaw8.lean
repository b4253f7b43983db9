/-
  The contract of the law BlockCounts: it returns true.
-/
import Derived.Test.YtmgippddljmfjaaWalk24
namespace Go.Proofs.Ytmgippddljmfjaa
open Go Go.RowKit Go.Dial Go.Dial.Blk

set_option maxRecDepth 100000 in
set_option maxHeartbeats 8000000 in
theorem law8_any (Ax : Option Addr) (cx : Nat) (xs : List (Int × Int × Int)) (r0 r1 fr to_ : Int) (w : World) (hlen : xs.length ≤ maxLen) (hS : Span w w.heap.size 3 Ax xs.length (tcs xs))
    (hb : (∀ x ∈ xs, Tri x) ∧ I64 r0 ∧ I64 r1 ∧ I64 fr ∧ I64 to_) :
    Calls Try.prog 8 #[.slice Ax xs.length cx, .agg #[.int .i64 r0, .int .i64 r1], .int .i64 fr, .int .i64 to_] w fun e w' => e = .returned (.bool true) ∧ Below w.heap.size w w' := by
  obtain ⟨ha, hr0, hr1, hfr, hto⟩ := hb
  have a_mk := (made_mk xs).mono (Nat.min_le_right _ _)
  obtain ⟨a, hA⟩ : ∃ A, A = madeV xs := ⟨_, rfl⟩
  rw [← hA] at a_mk
  have HA := Lib.hid hA
  have P_rng := piece_rng r0 r1
  obtain ⟨⟨p, p'⟩, hp⟩ : ∃ p, p = pieceV r0 r1 := ⟨_, rfl⟩
  rw [← hp] at P_rng
  have HP := Lib.hid hp
  have U_car := car_pick fr
  obtain ⟨u, hu⟩ : ∃ x, x = pickV fr 8 := ⟨_, rfl⟩
  rw [← hu] at U_car
  have HU := Lib.hid hu
  have V_car := car_pick to_
  obtain ⟨v, hv⟩ : ∃ y, y = pickV to_ 8 := ⟨_, rfl⟩
  rw [← hv] at V_car
  have HV := Lib.hid hv
  dsimp only at P_rng
  clear hA hp hu hv
  obtain ⟨gg, e1, m1, h1⟩ := give_mk a_mk (by omega) P_rng V_car
  obtain ⟨le, e2, m2, h2⟩ := take_mk a_mk (by omega) P_rng
  obtain ⟨pa, e3, m3, h3⟩ := only_mk a_mk (by omega) P_rng
  obtain ⟨ww, e4, m4, h4⟩ := swap_mk a_mk (by omega) U_car V_car
  have E1 := Lib.hid e1
  have E2 := Lib.hid e2
  have E3 := Lib.hid e3
  have E4 := Lib.hid e4
  have AV := Lib.hid (a_mk.valid (by omega))
  have GV := Lib.hid (m1.valid (by omega))
  have LV := Lib.hid (m2.valid (by omega))
  have PV := Lib.hid (m3.valid (by omega))
  have WV := Lib.hid (m4.valid (by omega))
  have HCA := Lib.hid a_mk.1
  rw [rngB_iff] at P_rng
  rw [carB_iff] at U_car V_car
  obtain ⟨pb1, pb2, pb3⟩ := P_rng
  have bca := cnt_bd a_mk.1 (by omega) v
  have bcp := cnt_bd m3.1 (by omega) v
  have bcau := cnt_bd a_mk.1 (by omega) u
  have bS := sum_bd a_mk.1 (by omega)
  have bSP := sum_bd m3.1 (by omega)
  obtain ⟨f1, f2, f3, f4, f5⟩ := counts_spec a_mk.1 m1.1 m2.1 m3.1 m4.1 pb1 (by omega) pb3 U_car V_car h1 h2 h3 h4
  have f6 : cntL a (-1) = 0 := cnt_out a_mk.1 (by omega)
  have f7 : cntL a 8 = 0 := cnt_out a_mk.1 (by omega)
  obtain ⟨ca, hca⟩ : ∃ x, x = cntL a v := ⟨_, rfl⟩
  obtain ⟨cp, hcp⟩ : ∃ x, x = cntL pa v := ⟨_, rfl⟩
  obtain ⟨cau, hcau⟩ : ∃ x, x = cntL a u := ⟨_, rfl⟩
  obtain ⟨S, hS'⟩ : ∃ x, x = sumL a := ⟨_, rfl⟩
  obtain ⟨SP, hSP⟩ : ∃ x, x = sumL pa := ⟨_, rfl⟩
  rw [← hca, ← hcp] at f1
  rw [← hca, ← hcau] at f5
  rw [← hS', ← hSP] at f2
  rw [← hS'] at f3
  rw [← hca] at bca
  rw [← hcp] at bcp
  rw [← hcau] at bcau
  rw [← hS'] at bS
  rw [← hSP] at bSP
  have F1 := Lib.hid f1
  have F2 := Lib.hid f2
  have F3 := Lib.hid f3
  have F4 := Lib.hid f4
  have F5 := Lib.hid f5
  have F6 := Lib.hid f6
  have F7 := Lib.hid f7
  have HCV := Lib.hid hca
  have HCP := Lib.hid hcp
  have HCU := Lib.hid hcau
  have HSS := Lib.hid hS'
  have HSP := Lib.hid hSP
  have hal := a_mk.len (by omega)
  clear e1 e2 e3 e4 h1 h2 h3 h4 m1 m2 m3 m4 a_mk f1 f2 f3 f4 f5 f6 f7 hca hcp hcau hS' hSP
  obtain ⟨W0, hW0⟩ : ∃ W0, W0 = w.alloc (.cells #[.int .i64 r0, .int .i64 r1] 35) := ⟨_, rfl⟩
  have C5 : Hid (W0.heap[w.heap.size]? = some (.cells #[.int .i64 r0, .int .i64 r1] 35)) := Lib.hid (by rw [hW0]; exact new_heap _ _)
  have hb0 : Below w.heap.size w W0 := by rw [hW0]; exact below_al _ _
  have HSX : Hid (Span W0 W0.heap.size 3 Ax xs.length (tcs xs)) := Lib.hid ((hS.below hb0 (Nat.le_refl _)).mono hb0.size)
  have HW := Lib.hid hb0
  have HWS := Lib.hid hW0
  clear hb0 hS
  go_enter Try.func8, Try.ntmps8
  go_wp2_with fail
  rw [← HWS.out]
  clear hW0
  refine (sane_any _).mono ?_
  rintro e W1 ⟨rfl, hb⟩
  replace HW := Lib.hid (below_trans HW.out hb)
  replace C5 := Lib.hid (cell_keep C5.out hb)
  replace HSX := Lib.hid ((HSX.out.below hb (Nat.le_refl _)).mono hb.size)
  clear hb
  obtain ⟨C5_0, C5_1, C5_2⟩ := cell2 C5.out
  go_wp2_with fail
  refine (made_any Ax cx xs _ hlen HSX.out ha).mono ?_
  rintro e W2 ⟨⟨va, rfl, h1⟩, hb⟩
  clear C5_0 C5_1 C5_2
  clear HSX
  replace HW := Lib.hid (below_trans HW.out hb)
  replace C5 := Lib.hid (cell_keep C5.out hb)
  clear hb
  rw [← HA.out] at h1
  have Ha := Lib.hid h1
  clear h1
  obtain ⟨C5_0, C5_1, C5_2⟩ := cell2 C5.out
  go_wp2_with fail
  refine (piece_any r0 r1 _ hr0 hr1).mono ?_
  rintro e W3 ⟨rfl, hb⟩
  clear C5_0 C5_1 C5_2
  replace HW := Lib.hid (below_trans HW.out hb)
  replace C5 := Lib.hid (cell_keep C5.out hb)
  replace Ha := Lib.hid (Ha.out.later hb)
  clear hb
  rw [← HP.out]
  dsimp only
  obtain ⟨C5_0, C5_1, C5_2⟩ := cell2 C5.out
  go_wp2_with fail
  obtain ⟨W4, hnew⟩ : ∃ W, W = W3.alloc (.cells #[.int .i64 p, .int .i64 p'] 26) := ⟨_, rfl⟩
  rw [← hnew]
  have C110 := Lib.hid (show W4.heap[W3.heap.size]? = some (.cells #[.int .i64 p, .int .i64 p'] 26) by rw [hnew]; exact new_heap _ _)
  have hb : Below W3.heap.size W3 W4 := by rw [hnew]; exact below_al _ _
  clear hnew C5_0 C5_1 C5_2
  replace HW := Lib.hid (below_trans HW.out hb)
  replace C5 := Lib.hid (cell_keep C5.out hb)
  replace Ha := Lib.hid (Ha.out.later hb)
  clear hb
  have C11 := C110
  clear C110
  clear C5
  refine (pick_any fr 8 _ hfr (by decide) (by decide)).mono ?_
  rintro e wq ⟨rfl, rfl⟩
  rw [← HU.out]
  obtain ⟨C11_0, C11_1, C11_2⟩ := cell2 C11.out
  go_wp2_with fail
  refine (pick_any to_ 8 _ hto (by decide) (by decide)).mono ?_
  rintro e wq ⟨rfl, rfl⟩
  rw [← HV.out]
  clear C11_0 C11_1 C11_2
  go_wp2_with fail
  obtain ⟨Aa, cc, hva, hcc0, hcc1, hsp⟩ := Ha.out
  subst hva
  have HSPA := Lib.hid hsp
  unfold maxLen at hcc1
  clear hsp
  go_loopw [12, 13] (fun s i wr => ∃ (j : Nat) (q : Int), j ≤ a.length ∧ i = .int .i64 j ∧ s = .int .i64 q ∧ 0 ≤ q ∧ q + sumL (a.drop j) = S ∧ Below W4.heap.size W4 wr) (fun _ i _ => a.length - (intOf i).toNat)
  case atStart => exact ⟨0, 0, by omega, rfl, rfl, by omega, by rw [HSS.out]; simp, Below.refl _ _⟩
  obtain ⟨j, q, hj, rfl, rfl, hq0, hq, hbl⟩ := hrel
  by_cases hjn : j < a.length
  · rw [sum_drop hjn] at hq
    have hnn := some_sum (asc_drop HCA.out (j + 1))
    have hgt := asc_get HCA.out hjn
    obtain ⟨z, hz⟩ : ∃ z, z = sumL (a.drop (j + 1)) := ⟨_, rfl⟩
    rw [← hz] at hq hnn
    have HZ := Lib.hid hz
    obtain ⟨ad, e0, _, x0, x1, x2⟩ := span_blk (HSPA.out.below hbl (Nat.le_refl _)) (List.getElem?_eq_getElem hjn)
    subst e0
    obtain ⟨b, hbj⟩ : ∃ b, b = a[j] := ⟨_, rfl⟩
    rw [← hbj] at x0 x1 x2 hq hgt
    clear hbj hz
    have s1 : IntKind.i64.wrap (q + b.t) = q + b.t := IntWalk.i64_in _ (by omega)
    have s2 : IntKind.i64.wrap (q + b.t - b.f) = q + b.t - b.f := IntWalk.i64_in _ (by omega)
    have z0 : (0 : Int) ≤ (j : Int) := by omega
    have z1 : (j : Int) < (a.length : Int) := by omega
    go_upto_region 12 with fail
    go_quiet (fail)
    clear s1 s2
    go_wp2_with fail
    exact ⟨⟨j + 1, q + b.t - b.f, by omega, by go_num, rfl, by omega, by rw [← HZ.out]; omega, below_dN hbl _⟩, by simp [intOf]; omega⟩
  have hqS : q = S := by
    rw [List.drop_of_length_le (by omega)] at hq
    simpa [sumL] using hq
  subst hqS
  obtain ⟨W5, hnew⟩ : ∃ W, W = wr := ⟨_, rfl⟩
  subst hnew
  have hb := hbl
  clear hbl hq
  replace HW := Lib.hid (below_trans HW.out hb)
  replace Ha := Lib.hid (Ha.out.later hb)
  replace C11 := Lib.hid (cell_keep C11.out hb)
  clear hb
  obtain ⟨C11_0, C11_1, C11_2⟩ := cell2 C11.out
  go_wp2_with fail
  refine (give_any _ a p p' v _ Ha.out).mono ?_
  rw [E1.out]
  rintro e W6 ⟨vg, rfl, h1, hb⟩
  clear C11_0 C11_1 C11_2
  dsimp only at h1 ⊢
  replace HW := Lib.hid (below_trans HW.out hb)
  replace Ha := Lib.hid (Ha.out.later hb)
  replace C11 := Lib.hid (cell_keep C11.out hb)
  clear hb
  have Hg := Lib.hid h1
  clear h1
  obtain ⟨C11_0, C11_1, C11_2⟩ := cell2 C11.out
  go_wp2_with fail
  refine (take_any _ a p p' _ Ha.out).mono ?_
  rw [E2.out]
  rintro e W7 ⟨vl, rfl, h1, hb⟩
  clear C11_0 C11_1 C11_2
  dsimp only at h1 ⊢
  replace HW := Lib.hid (below_trans HW.out hb)
  replace Ha := Lib.hid (Ha.out.later hb)
  replace C11 := Lib.hid (cell_keep C11.out hb)
  replace Hg := Lib.hid (Hg.out.later hb)
  clear hb
  have Hl := Lib.hid h1
  clear h1
  obtain ⟨C11_0, C11_1, C11_2⟩ := cell2 C11.out
  go_wp2_with fail
  refine (only_any _ a p p' _ Ha.out).mono ?_
  rw [E3.out]
  rintro e W8 ⟨vp, rfl, h1, hb⟩
  clear C11_0 C11_1 C11_2
  dsimp only at h1 ⊢
  replace HW := Lib.hid (below_trans HW.out hb)
  replace Ha := Lib.hid (Ha.out.later hb)
  replace C11 := Lib.hid (cell_keep C11.out hb)
  replace Hg := Lib.hid (Hg.out.later hb)
  replace Hl := Lib.hid (Hl.out.later hb)
  clear hb
  have Hp := Lib.hid h1
  clear h1
  obtain ⟨C11_0, C11_1, C11_2⟩ := cell2 C11.out
  go_wp2_with fail
  refine (swap_any _ a u v _ Ha.out).mono ?_
  rw [E4.out]
  rintro e W9 ⟨vw, rfl, h1, hb⟩
  clear C11_0 C11_1 C11_2
  dsimp only at h1 ⊢
  replace HW := Lib.hid (below_trans HW.out hb)
  replace Ha := Lib.hid (Ha.out.later hb)
  replace C11 := Lib.hid (cell_keep C11.out hb)
  replace Hg := Lib.hid (Hg.out.later hb)
  replace Hl := Lib.hid (Hl.out.later hb)
  replace Hp := Lib.hid (Hp.out.later hb)
  clear hb
  have Hw := Lib.hid h1
  clear h1
  obtain ⟨C11_0, C11_1, C11_2⟩ := cell2 C11.out
  go_wp2_with fail
  refine (total_any _ a _ Ha.out AV.out).mono ?_
  rintro e W10 ⟨rfl, hb⟩
  clear C11_0 C11_1 C11_2
  rw [← HSS.out]
  replace HW := Lib.hid (below_trans HW.out hb)
  replace Ha := Lib.hid (Ha.out.later hb)
  replace C11 := Lib.hid (cell_keep C11.out hb)
  replace Hg := Lib.hid (Hg.out.later hb)
  replace Hl := Lib.hid (Hl.out.later hb)
  replace Hp := Lib.hid (Hp.out.later hb)
  replace Hw := Lib.hid (Hw.out.later hb)
  clear hb
  obtain ⟨C11_0, C11_1, C11_2⟩ := cell2 C11.out
  go_wp2_with fail
  refine (countH_any' _ a (-1) _ Ha.out AV.out).mono ?_
  rintro e W11 ⟨rfl, hb⟩
  clear C11_0 C11_1 C11_2
  rw [F6.out]
  replace HW := Lib.hid (below_trans HW.out hb)
  replace Ha := Lib.hid (Ha.out.later hb)
  replace C11 := Lib.hid (cell_keep C11.out hb)
  replace Hg := Lib.hid (Hg.out.later hb)
  replace Hl := Lib.hid (Hl.out.later hb)
  replace Hp := Lib.hid (Hp.out.later hb)
  replace Hw := Lib.hid (Hw.out.later hb)
  clear hb
  obtain ⟨C11_0, C11_1, C11_2⟩ := cell2 C11.out
  go_wp2_with fail
  refine (countH_any' _ a 8 _ Ha.out AV.out).mono ?_
  rintro e W12 ⟨rfl, hb⟩
  clear C11_0 C11_1 C11_2
  rw [F7.out]
  replace HW := Lib.hid (below_trans HW.out hb)
  replace Ha := Lib.hid (Ha.out.later hb)
  replace C11 := Lib.hid (cell_keep C11.out hb)
  replace Hg := Lib.hid (Hg.out.later hb)
  replace Hl := Lib.hid (Hl.out.later hb)
  replace Hp := Lib.hid (Hp.out.later hb)
  replace Hw := Lib.hid (Hw.out.later hb)
  clear hb
  have D0Hg : Hid (HoldsB W12.drew W12.drew.heap.size vg gg) := Lib.hid Hg.out
  have D0Ha : Hid (HoldsB W12.drew W12.drew.heap.size (Value.slice Aa a.length cc) a) := Lib.hid Ha.out
  have D0Hp : Hid (HoldsB W12.drew W12.drew.heap.size vp pa) := Lib.hid Hp.out
  have D0Hl : Hid (HoldsB W12.drew W12.drew.heap.size vl le) := Lib.hid Hl.out
  have D0Hw : Hid (HoldsB W12.drew W12.drew.heap.size vw ww) := Lib.hid Hw.out
  have D0C : Hid (W12.drew.heap[_]? = _) := Lib.hid C11.out
  have s1 : IntKind.i64.wrap (ca + p') = ca + p' := IntWalk.i64_in _ (by omega)
  have s2 : IntKind.i64.wrap (ca + p' - p) = ca + p' - p := IntWalk.i64_in _ (by omega)
  have s3 : IntKind.i64.wrap (ca + p' - p - cp) = ca + p' - p - cp := IntWalk.i64_in _ (by omega)
  have s4 : IntKind.i64.wrap (q - SP) = q - SP := IntWalk.i64_in _ (by omega)
  obtain ⟨C11_0, C11_1, C11_2⟩ := cell2 C11.out
  go_upto_region 19 with fail
  go_region_held3 (fun w' => w'.cell? ⟨W3.heap.size, 0, none⟩ = some (.int .i64 p) ∧ w'.cell? ⟨W3.heap.size, 1, none⟩ = some (.int .i64 p')) (go_keep)
    (first
      | (go_at_call_of 30 vg; (with_reducible refine (countH_any' vg gg v W12.drew D0Hg.out GV.out).mono ?_); rintro e X1 ⟨rfl, hb0⟩; rw [F1.out]; have D1Hg := Lib.hid (D0Hg.out.later hb0); have D1Ha := Lib.hid (D0Ha.out.later hb0); have D1Hp := Lib.hid (D0Hp.out.later hb0); have D1Hl := Lib.hid (D0Hl.out.later hb0); have D1Hw := Lib.hid (D0Hw.out.later hb0); have D1C := Lib.hid (cell_keep D0C.out hb0); obtain ⟨y0_0, y0_1, y0_2⟩ := cell2 D1C.out)
      | (go_at_call_of 30 (Value.slice Aa a.length cc); (with_reducible refine (countH_any' _ a v X1 D1Ha.out AV.out).mono ?_); rintro e X2 ⟨rfl, hb1⟩; rw [← HCV.out]; have D2Hg := Lib.hid (D1Hg.out.later hb1); have D2Ha := Lib.hid (D1Ha.out.later hb1); have D2Hp := Lib.hid (D1Hp.out.later hb1); have D2Hl := Lib.hid (D1Hl.out.later hb1); have D2Hw := Lib.hid (D1Hw.out.later hb1); have D2C := Lib.hid (cell_keep D1C.out hb1); obtain ⟨y1_0, y1_1, y1_2⟩ := cell2 D2C.out)
      | (go_at_call_of 30 vp; (with_reducible refine (countH_any' vp pa v X2 D2Hp.out PV.out).mono ?_); rintro e X3 ⟨rfl, hb2⟩; rw [← HCP.out]; have D3Hg := Lib.hid (D2Hg.out.later hb2); have D3Ha := Lib.hid (D2Ha.out.later hb2); have D3Hp := Lib.hid (D2Hp.out.later hb2); have D3Hl := Lib.hid (D2Hl.out.later hb2); have D3Hw := Lib.hid (D2Hw.out.later hb2); have D3C := Lib.hid (cell_keep D2C.out hb2); obtain ⟨y2_0, y2_1, y2_2⟩ := cell2 D3C.out)
      | (go_at_call_of 29 vl; (with_reducible refine (total_any vl le X3 D3Hl.out LV.out).mono ?_); rintro e X4 ⟨rfl, hb3⟩; rw [F2.out]; have D4Hg := Lib.hid (D3Hg.out.later hb3); have D4Ha := Lib.hid (D3Ha.out.later hb3); have D4Hp := Lib.hid (D3Hp.out.later hb3); have D4Hl := Lib.hid (D3Hl.out.later hb3); have D4Hw := Lib.hid (D3Hw.out.later hb3); have D4C := Lib.hid (cell_keep D3C.out hb3); obtain ⟨y3_0, y3_1, y3_2⟩ := cell2 D4C.out)
      | (go_at_call_of 29 vp; (with_reducible refine (total_any vp pa X4 D4Hp.out PV.out).mono ?_); rintro e X5 ⟨rfl, hb4⟩; rw [← HSP.out]; have D5Hg := Lib.hid (D4Hg.out.later hb4); have D5Ha := Lib.hid (D4Ha.out.later hb4); have D5Hp := Lib.hid (D4Hp.out.later hb4); have D5Hl := Lib.hid (D4Hl.out.later hb4); have D5Hw := Lib.hid (D4Hw.out.later hb4); have D5C := Lib.hid (cell_keep D4C.out hb4); obtain ⟨y4_0, y4_1, y4_2⟩ := cell2 D5C.out)
      | (go_at_call_of 29 vw; (with_reducible refine (total_any vw ww X5 D5Hw.out WV.out).mono ?_); rintro e X6 ⟨rfl, hb5⟩; rw [F3.out]; have D6Hg := Lib.hid (D5Hg.out.later hb5); have D6Ha := Lib.hid (D5Ha.out.later hb5); have D6Hp := Lib.hid (D5Hp.out.later hb5); have D6Hl := Lib.hid (D5Hl.out.later hb5); have D6Hw := Lib.hid (D5Hw.out.later hb5); have D6C := Lib.hid (cell_keep D5C.out hb5); obtain ⟨y5_0, y5_1, y5_2⟩ := cell2 D6C.out))
  have hb := below_trans (below_trans (below_trans (below_trans (below_trans (below_trans (Below.refl _ W12).drew hb0) hb1) hb2) hb3) hb4) hb5
  have Hg9 := D6Hg.out
  have Ha9 := D6Ha.out
  have Hp9 := D6Hp.out
  have Hl9 := D6Hl.out
  have Hw9 := D6Hw.out
  clear D0Hg D0Ha D0Hp D0Hl D0Hw D0C D1Hg D1Ha D1Hp D1Hl D1Hw D1C D2Hg D2Ha D2Hp D2Hl D2Hw D2C D3Hg D3Ha D3Hp D3Hl D3Hw D3C D4Hg D4Ha D4Hp D4Hl D4Hw D4C D5Hg D5Ha D5Hp D5Hl D5Hw D5C D6Hg D6Ha D6Hp D6Hl D6Hw D6C y0_0 y0_1 y0_2 y1_0 y1_1 y1_2 y2_0 y2_1 y2_2 y3_0 y3_1 y3_2 y4_0 y4_1 y4_2 y5_0 y5_1 y5_2 s1 s2 s3 s4 C11_0 C11_1 C11_2 hb0 hb1 hb2 hb3 hb4 hb5
  obtain ⟨W13, hnew⟩ : ∃ W, W = X6 := ⟨_, rfl⟩
  subst hnew
  replace HW := Lib.hid (below_trans HW.out hb)
  clear hb
  replace Hg := Lib.hid Hg9
  clear Hg9
  replace Ha := Lib.hid Ha9
  clear Ha9
  replace Hp := Lib.hid Hp9
  clear Hp9
  replace Hl := Lib.hid Hl9
  clear Hl9
  replace Hw := Lib.hid Hw9
  clear Hw9
  by_cases huv : u = v
  · have t1 : (u == v) = true := by rw [huv]; simp
    have SM := Lib.hid (F4.out huv)
    clear huv
    go_wp2_with fail
    refine (same_any _ _ ww a _ Hw.out Ha.out).mono ?_
    rintro e W14 ⟨rfl, hb⟩
    rw [decide_eq_true SM.out]
    replace HW := Lib.hid (below_trans HW.out hb)
    replace Hg := Lib.hid (Hg.out.later hb)
    replace Ha := Lib.hid (Ha.out.later hb)
    replace Hp := Lib.hid (Hp.out.later hb)
    replace Hl := Lib.hid (Hl.out.later hb)
    replace Hw := Lib.hid (Hw.out.later hb)
    clear hb
    go_wp2_with fail
    go_ret
    exact ⟨rfl, HW.out⟩
  · have t1 : (u == v) = false := by rw [beq_eq_false_iff_ne]; exact huv
    obtain ⟨fa, fb⟩ := F5.out huv
    have FA := Lib.hid fa
    have FB := Lib.hid fb
    clear huv fa fb
    have s5 : IntKind.i64.wrap (ca + cau) = ca + cau := IntWalk.i64_in _ (by omega)
    go_wp2_with fail
    refine (countH_any' _ ww v _ Hw.out WV.out).mono ?_
    rintro e W14 ⟨rfl, hb⟩
    rw [FA.out]
    replace HW := Lib.hid (below_trans HW.out hb)
    replace Hg := Lib.hid (Hg.out.later hb)
    replace Ha := Lib.hid (Ha.out.later hb)
    replace Hp := Lib.hid (Hp.out.later hb)
    replace Hl := Lib.hid (Hl.out.later hb)
    replace Hw := Lib.hid (Hw.out.later hb)
    clear hb
    go_wp2_with fail
    refine (countH_any' _ a v _ Ha.out AV.out).mono ?_
    rintro e W15 ⟨rfl, hb⟩
    rw [← HCV.out]
    replace HW := Lib.hid (below_trans HW.out hb)
    replace Hg := Lib.hid (Hg.out.later hb)
    replace Ha := Lib.hid (Ha.out.later hb)
    replace Hp := Lib.hid (Hp.out.later hb)
    replace Hl := Lib.hid (Hl.out.later hb)
    replace Hw := Lib.hid (Hw.out.later hb)
    clear hb
    go_wp2_with fail
    refine (countH_any' _ a u _ Ha.out AV.out).mono ?_
    rintro e W16 ⟨rfl, hb⟩
    rw [← HCU.out]
    replace HW := Lib.hid (below_trans HW.out hb)
    replace Hg := Lib.hid (Hg.out.later hb)
    replace Ha := Lib.hid (Ha.out.later hb)
    replace Hp := Lib.hid (Hp.out.later hb)
    replace Hl := Lib.hid (Hl.out.later hb)
    replace Hw := Lib.hid (Hw.out.later hb)
    clear hb
    go_wp2_with fail
    refine (countH_any' _ ww u _ Hw.out WV.out).mono ?_
    rintro e W17 ⟨rfl, hb⟩
    rw [FB.out]
    replace HW := Lib.hid (below_trans HW.out hb)
    replace Hg := Lib.hid (Hg.out.later hb)
    replace Ha := Lib.hid (Ha.out.later hb)
    replace Hp := Lib.hid (Hp.out.later hb)
    replace Hl := Lib.hid (Hl.out.later hb)
    replace Hw := Lib.hid (Hw.out.later hb)
    clear hb
    go_wp2_with fail
    go_ret
    exact ⟨rfl, HW.out⟩
end Go.Proofs.Ytmgippddljmfjaa
