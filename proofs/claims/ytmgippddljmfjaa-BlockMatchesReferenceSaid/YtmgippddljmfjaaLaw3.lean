/-
  The contract of the law BlockMatchesReference: it returns true.
-/
import Derived.Test.YtmgippddljmfjaaWalk29
import Derived.Deep.RegionHeld3
import Derived.Deep.DrawnRows
namespace Go.Proofs.Ytmgippddljmfjaa
open Go Go.RowKit Go.Dial Go.Dial.Blk

attribute [local go_sem ↓] Go.wp_at_zero Go.wp_at_succ
theorem cell3 {W : World} {p : Nat} {x y z : Value} {t : TypeId} (h : W.heap[p]? = some (.cells #[x, y, z] t)) : W.cell? ⟨p, 0, none⟩ = some x ∧ W.cell? ⟨p, 1, none⟩ = some y ∧ W.cell? ⟨p, 2, none⟩ = some z ∧ p < W.heap.size :=
  ⟨blk_cell (cs := [x, y, z]) h (i := 0) rfl, blk_cell (cs := [x, y, z]) h (i := 1) rfl, blk_cell (cs := [x, y, z]) h (i := 2) rfl, (Array.getElem?_eq_some_iff.1 h).1⟩
theorem new_heap2 (w : World) (o o' : Obj) : ((w.alloc o).alloc o').heap[w.heap.size + 1]? = some o' := by
  have := new_heap (w.alloc o) o'
  simpa using this
theorem old_heap {w : World} {p : Nat} {x : Obj} (o : Obj) (h : w.heap[p]? = some x) : (w.alloc o).heap[p]? = some x := (Below.heap_alloc _ _ _ (Array.getElem?_eq_some_iff.1 h).1).trans h
theorem holds_cap {W : World} {A : Option Addr} {n c : Nat} {l : List B3} (h : HoldsB W W.heap.size (.slice A n c) l) : n ≤ c ∧ c ≤ 9223372036854775807 := by
  obtain ⟨A', c', e, h1, h2, _⟩ := h
  cases e; exact ⟨h1, h2⟩
theorem holds_take {W : World} {A : Option Addr} {n c k : Nat} {l : List B3} (h : HoldsB W W.heap.size (.slice A n c) l) (hk : k ≤ n) : HoldsB W W.heap.size (.slice A k c) (l.take k) := by
  obtain ⟨A', c', e, h1, h2, h3⟩ := h
  cases e
  have hl : (l.take k).length = k := by simp; omega
  refine ⟨A, c, by rw [hl], by rw [hl]; omega, h2, ?_⟩
  rw [hl]
  refine ⟨by rw [bcs_len, hl], fun j u hu => h3.2 j u ?_⟩
  have e : bcs l = bcs (l.take k) ++ bcs (l.drop k) := by rw [bcs, bcs, bcs, ← List.flatMap_append, List.take_append_drop]
  rw [e, List.getElem?_append_left (List.getElem?_eq_some_iff.1 hu).1]; exact hu
set_option maxRecDepth 100000 in
set_option maxHeartbeats 8000000 in
theorem law3_any (Ax Ay Ar : Option Addr) (cx cy cr : Nat) (xs ys : List (Int × Int × Int)) (ls : List B3) (z0 z1 z2 rf rt fr to_ n wh : Int) (w : World) (hlx : xs.length ≤ maxLen) (hly : ys.length ≤ maxLen) (hSx : Span w w.heap.size 3 Ax xs.length (tcs xs)) (hSy : Span w w.heap.size 3 Ay ys.length (tcs ys))
    (hR : HoldsB w w.heap.size (.slice Ar ls.length cr) ls)
    (hb : (∀ x ∈ xs, Tri x) ∧ (∀ y ∈ ys, Tri y) ∧ I64 z0 ∧ I64 z1 ∧ I64 z2 ∧ I64 rf ∧ I64 rt ∧ I64 fr ∧ I64 to_ ∧ I64 n ∧ I64 wh) :
    Calls Try.prog 3 #[.slice Ax xs.length cx, .slice Ay ys.length cy, .agg #[.int .i64 z0, .int .i64 z1, .int .i64 z2], .slice Ar ls.length cr, .agg #[.int .i64 rf, .int .i64 rt], .int .i64 fr, .int .i64 to_, .int .i64 n, .int .i64 wh] w fun e w' => e = .returned (.bool true) ∧ Below w.heap.size w w' := by
  obtain ⟨hax, hay, hb0, hb1, hb2, hr0, hr1, hfr, hto, hn, hwh⟩ := hb
  have a_mk := made_mk xs
  obtain ⟨a, ha⟩ : ∃ A, A = madeV xs := ⟨_, rfl⟩
  rw [← ha] at a_mk
  have HA := Lib.hid ha
  have b_mk := made_mk ys
  obtain ⟨b, hbv⟩ : ∃ A, A = madeV ys := ⟨_, rfl⟩
  rw [← hbv] at b_mk
  have HB := Lib.hid hbv
  obtain ⟨⟨p, p'⟩, hp⟩ : ∃ p, p = pieceV rf rt := ⟨_, rfl⟩
  have HP := Lib.hid hp
  obtain ⟨u, hu⟩ : ∃ x, x = pickV fr 8 := ⟨_, rfl⟩
  have HU := Lib.hid hu
  obtain ⟨v, hv⟩ : ∃ y, y = pickV to_ 8 := ⟨_, rfl⟩
  have HV := Lib.hid hv
  obtain ⟨na, hna⟩ : ∃ y, y = nearV a wh n := ⟨_, rfl⟩
  have HNA := Lib.hid hna
  obtain ⟨nb, hnb⟩ : ∃ y, y = nearV b wh n := ⟨_, rfl⟩
  have HNB := Lib.hid hnb
  have AV := Lib.hid (a_mk.valid (Nat.le_trans (Nat.min_le_right _ _) (by decide)))
  have BV := Lib.hid (b_mk.valid (Nat.le_trans (Nat.min_le_right _ _) (by decide)))
  have AL := Lib.hid (a_mk.len (Nat.le_trans (Nat.min_le_right _ _) (by decide)))
  clear ha hbv hp hu hv hna hnb a_mk b_mk
  obtain ⟨W0, hW0⟩ : ∃ W0, W0 = (w.alloc (.cells #[.int .i64 z0, .int .i64 z1, .int .i64 z2] 23)).alloc (.cells #[.int .i64 rf, .int .i64 rt] 26) := ⟨_, rfl⟩
  have C1 : Hid (W0.heap[w.heap.size]? = some (.cells #[.int .i64 z0, .int .i64 z1, .int .i64 z2] 23)) := Lib.hid (by rw [hW0]; exact old_heap _ (new_heap _ _))
  have C2 : Hid (W0.heap[w.heap.size + 1]? = some (.cells #[.int .i64 rf, .int .i64 rt] 26)) := Lib.hid (by rw [hW0]; exact new_heap2 _ _ _)
  have hbz : Below w.heap.size w W0 := by rw [hW0]; exact below_trans (below_al _ _) (below_al _ _)
  have HSX : Hid (Span W0 W0.heap.size 3 Ax xs.length (tcs xs)) := Lib.hid ((hSx.below hbz (Nat.le_refl _)).mono hbz.size)
  have HSY : Hid (Span W0 W0.heap.size 3 Ay ys.length (tcs ys)) := Lib.hid ((hSy.below hbz (Nat.le_refl _)).mono hbz.size)
  have HR : Hid (HoldsB W0 W0.heap.size (.slice Ar ls.length cr) ls) := Lib.hid (hR.later hbz)
  have HW : Hid (Below w.heap.size w W0) := Lib.hid hbz
  have HZ := Lib.hid hW0
  have HLX := Lib.hid hlx
  have HLY := Lib.hid hly
  clear hW0 hbz hSx hSy hR hlx hly
  go_enter Try.func3, Try.ntmps3
  go_wp2_with fail
  rw [← HZ.out]
  obtain ⟨C1_0, C1_1, C1_2, C1_3⟩ := cell3 C1.out
  obtain ⟨C2_0, C2_1, C2_2⟩ := cell2 C2.out
  go_wp2_with fail
  refine (sane_any _).mono ?_
  rintro e W1 ⟨rfl, hb⟩
  clear C1_0 C1_1 C1_2 C1_3 C2_0 C2_1 C2_2
  replace HW := Lib.hid (below_trans HW.out hb)
  replace C1 := Lib.hid (cell_keep C1.out hb)
  replace C2 := Lib.hid (cell_keep C2.out hb)
  replace HSX := Lib.hid ((HSX.out.below hb (Nat.le_refl _)).mono hb.size)
  replace HSY := Lib.hid ((HSY.out.below hb (Nat.le_refl _)).mono hb.size)
  replace HR := Lib.hid (HR.out.later hb)
  clear hb
  obtain ⟨C1_0, C1_1, C1_2, C1_3⟩ := cell3 C1.out
  obtain ⟨C2_0, C2_1, C2_2⟩ := cell2 C2.out
  go_wp2_with fail
  refine (made_any Ax cx xs _ HLX.out HSX.out hax).mono ?_
  rintro e W2 ⟨⟨va, rfl, h1⟩, hb⟩
  clear C1_0 C1_1 C1_2 C1_3 C2_0 C2_1 C2_2
  clear HSX
  replace HW := Lib.hid (below_trans HW.out hb)
  replace C1 := Lib.hid (cell_keep C1.out hb)
  replace C2 := Lib.hid (cell_keep C2.out hb)
  replace HSY := Lib.hid ((HSY.out.below hb (Nat.le_refl _)).mono hb.size)
  replace HR := Lib.hid (HR.out.later hb)
  clear hb
  rw [← HA.out] at h1
  have Ha := Lib.hid h1
  clear h1
  obtain ⟨C1_0, C1_1, C1_2, C1_3⟩ := cell3 C1.out
  obtain ⟨C2_0, C2_1, C2_2⟩ := cell2 C2.out
  go_wp2_with fail
  refine (made_any Ay cy ys _ HLY.out HSY.out hay).mono ?_
  rintro e W3 ⟨⟨vb, rfl, h1⟩, hb⟩
  clear C1_0 C1_1 C1_2 C1_3 C2_0 C2_1 C2_2
  clear HSY
  replace HW := Lib.hid (below_trans HW.out hb)
  replace C1 := Lib.hid (cell_keep C1.out hb)
  replace C2 := Lib.hid (cell_keep C2.out hb)
  replace HR := Lib.hid (HR.out.later hb)
  replace Ha := Lib.hid (Ha.out.later hb)
  clear hb
  rw [← HB.out] at h1
  have Hb := Lib.hid h1
  clear h1
  obtain ⟨C1_0, C1_1, C1_2, C1_3⟩ := cell3 C1.out
  obtain ⟨C2_0, C2_1, C2_2⟩ := cell2 C2.out
  go_wp2_with fail
  refine (bent_any _ a z0 z1 z2 _ Ha.out AL.out hb0 hb1 hb2).mono ?_
  rintro e W4 ⟨vo, lo, rfl, h1, hb⟩
  clear C1_0 C1_1 C1_2 C1_3 C2_0 C2_1 C2_2
  replace HW := Lib.hid (below_trans HW.out hb)
  replace C1 := Lib.hid (cell_keep C1.out hb)
  replace C2 := Lib.hid (cell_keep C2.out hb)
  replace HR := Lib.hid (HR.out.later hb)
  replace Ha := Lib.hid (Ha.out.later hb)
  replace Hb := Lib.hid (Hb.out.later hb)
  clear hb
  have Ho := Lib.hid h1
  clear h1
  obtain ⟨m, hm⟩ : ∃ m, m = min ls.length 42 := ⟨_, rfl⟩
  have HM := Lib.hid hm
  clear hm
  by_cases hmin : ls.length ≤ 42
  · replace HR := Lib.hid (holds_take HR.out (Nat.le_refl _))
    have hcr := holds_cap HR.out
    obtain ⟨C1_0, C1_1, C1_2, C1_3⟩ := cell3 C1.out
    obtain ⟨C2_0, C2_1, C2_2⟩ := cell2 C2.out
    go_wp2_with fail
    refine (piece_any rf rt _ hr0 hr1).mono ?_
    rw [← HP.out]
    rintro e W5 ⟨rfl, hb⟩
    clear C1_0 C1_1 C1_2 C1_3 C2_0 C2_1 C2_2
    replace HW := Lib.hid (below_trans HW.out hb)
    replace C1 := Lib.hid (cell_keep C1.out hb)
    replace C2 := Lib.hid (cell_keep C2.out hb)
    replace HR := Lib.hid (HR.out.later hb)
    replace Ha := Lib.hid (Ha.out.later hb)
    replace Hb := Lib.hid (Hb.out.later hb)
    replace Ho := Lib.hid (Ho.out.later hb)
    clear hb
    dsimp only
    obtain ⟨C1_0, C1_1, C1_2, C1_3⟩ := cell3 C1.out
    obtain ⟨C2_0, C2_1, C2_2⟩ := cell2 C2.out
    go_wp2_with fail
    obtain ⟨W6, hnew⟩ : ∃ W, W = W5.alloc (.cells #[.int .i64 p, .int .i64 p'] 26) := ⟨_, rfl⟩
    rw [← hnew]
    have C30 : Hid (W6.heap[W5.heap.size]? = some (.cells #[.int .i64 p, .int .i64 p'] 26)) := Lib.hid (by rw [hnew]; exact new_heap _ _)
    have hb : Below W5.heap.size W5 W6 := by rw [hnew]; exact below_al _ _
    clear hnew C1_0 C1_1 C1_2 C1_3 C2_0 C2_1 C2_2
    replace HW := Lib.hid (below_trans HW.out hb)
    replace C1 := Lib.hid (cell_keep C1.out hb)
    replace C2 := Lib.hid (cell_keep C2.out hb)
    replace HR := Lib.hid (HR.out.later hb)
    replace Ha := Lib.hid (Ha.out.later hb)
    replace Hb := Lib.hid (Hb.out.later hb)
    replace Ho := Lib.hid (Ho.out.later hb)
    clear hb
    have C3 := C30
    clear C30
    obtain ⟨C1_0, C1_1, C1_2, C1_3⟩ := cell3 C1.out
    obtain ⟨C2_0, C2_1, C2_2⟩ := cell2 C2.out
    obtain ⟨C3_0, C3_1, C3_2⟩ := cell2 C3.out
    go_wp2_with fail
    refine (near_any _ b wh n _ Hb.out BV.out hwh hn).mono ?_
    rw [← HNB.out]
    rintro e W7 ⟨rfl, hb⟩
    clear C1_0 C1_1 C1_2 C1_3 C2_0 C2_1 C2_2 C3_0 C3_1 C3_2
    replace HW := Lib.hid (below_trans HW.out hb)
    replace C1 := Lib.hid (cell_keep C1.out hb)
    replace C2 := Lib.hid (cell_keep C2.out hb)
    replace HR := Lib.hid (HR.out.later hb)
    replace Ha := Lib.hid (Ha.out.later hb)
    replace Hb := Lib.hid (Hb.out.later hb)
    replace Ho := Lib.hid (Ho.out.later hb)
    replace C3 := Lib.hid (cell_keep C3.out hb)
    clear hb
    have D0Ha := Lib.hid (show HoldsB W7.drew W7.drew.heap.size _ a from Ha.out)
    have D0Hb := Lib.hid (show HoldsB W7.drew W7.drew.heap.size _ b from Hb.out)
    have D0Ho := Lib.hid (show HoldsB W7.drew W7.drew.heap.size _ lo from Ho.out)
    have D0HR := Lib.hid (show HoldsB W7.drew W7.drew.heap.size _ _ from HR.out)
    have D0C2 : Hid (W7.drew.heap[_]? = _) := Lib.hid C2.out
    have D0C3 : Hid (W7.drew.heap[_]? = _) := Lib.hid C3.out
    obtain ⟨C1_0, C1_1, C1_2, C1_3⟩ := cell3 C1.out
    obtain ⟨C2_0, C2_1, C2_2⟩ := cell2 C2.out
    obtain ⟨C3_0, C3_1, C3_2⟩ := cell2 C3.out
    go_upto_region 10 with fail
    dsimp only [List.append]
    go_region_held3 (fun w' => w'.cell? ⟨W5.heap.size, 0, none⟩ = some (.int .i64 p) ∧ w'.cell? ⟨W5.heap.size, 1, none⟩ = some (.int .i64 p') ∧ w'.cell? ⟨w.heap.size + 1, 0, none⟩ = some (.int .i64 rf) ∧ w'.cell? ⟨w.heap.size + 1, 1, none⟩ = some (.int .i64 rt)) (go_keep)
      (first
        | (go_at_call 15; (with_reducible refine (near_any _ a wh n W7.drew D0Ha.out AV.out hwh hn).mono ?_); rintro e X1 ⟨rfl, hb0⟩; rw [← HNA.out]; have D1Ha := Lib.hid (D0Ha.out.later hb0); have D1Hb := Lib.hid (D0Hb.out.later hb0); have D1Ho := Lib.hid (D0Ho.out.later hb0); have D1HR := Lib.hid (D0HR.out.later hb0); have D1C2 := Lib.hid (cell_keep D0C2.out hb0); have D1C3 := Lib.hid (cell_keep D0C3.out hb0); obtain ⟨y0_0, y0_1, y0_2⟩ := cell2 D1C2.out; obtain ⟨z0_0, z0_1, z0_2⟩ := cell2 D1C3.out)
        | (go_at_call 16; (with_reducible refine (agree_any _ _ a b p p' u v na X1 D1Ha.out D1Hb.out).mono ?_); rintro e X2 ⟨rfl, hb1⟩; have D2Ha := Lib.hid (D1Ha.out.later hb1); have D2Hb := Lib.hid (D1Hb.out.later hb1); have D2Ho := Lib.hid (D1Ho.out.later hb1); have D2HR := Lib.hid (D1HR.out.later hb1); have D2C2 := Lib.hid (cell_keep D1C2.out hb1); have D2C3 := Lib.hid (cell_keep D1C3.out hb1); obtain ⟨y1_0, y1_1, y1_2⟩ := cell2 D2C2.out; obtain ⟨z1_0, z1_1, z1_2⟩ := cell2 D2C3.out)
        | (go_at_call 16; (with_reducible refine (agree_any _ _ a b rf rt fr to_ n X2 D2Ha.out D2Hb.out).mono ?_); rintro e X3 ⟨rfl, hb2⟩; have D3Ha := Lib.hid (D2Ha.out.later hb2); have D3Hb := Lib.hid (D2Hb.out.later hb2); have D3Ho := Lib.hid (D2Ho.out.later hb2); have D3HR := Lib.hid (D2HR.out.later hb2); have D3C2 := Lib.hid (cell_keep D2C2.out hb2); have D3C3 := Lib.hid (cell_keep D2C3.out hb2); obtain ⟨y2_0, y2_1, y2_2⟩ := cell2 D3C2.out; obtain ⟨z2_0, z2_1, z2_2⟩ := cell2 D3C3.out)
        | (go_at_call 16; (with_reducible refine (agree_any _ _ lo b p p' u v nb X3 D3Ho.out D3Hb.out).mono ?_); rintro e X4 ⟨rfl, hb3⟩; have D4Ha := Lib.hid (D3Ha.out.later hb3); have D4Hb := Lib.hid (D3Hb.out.later hb3); have D4Ho := Lib.hid (D3Ho.out.later hb3); have D4HR := Lib.hid (D3HR.out.later hb3); have D4C2 := Lib.hid (cell_keep D3C2.out hb3); have D4C3 := Lib.hid (cell_keep D3C3.out hb3); obtain ⟨y3_0, y3_1, y3_2⟩ := cell2 D4C2.out; obtain ⟨z3_0, z3_1, z3_2⟩ := cell2 D4C3.out)
        | (go_at_call 16; (with_reducible refine (agree_any _ _ b lo p p' u v nb X4 D4Hb.out D4Ho.out).mono ?_); rintro e X5 ⟨rfl, hb4⟩; have D5Ha := Lib.hid (D4Ha.out.later hb4); have D5Hb := Lib.hid (D4Hb.out.later hb4); have D5Ho := Lib.hid (D4Ho.out.later hb4); have D5HR := Lib.hid (D4HR.out.later hb4); have D5C2 := Lib.hid (cell_keep D4C2.out hb4); have D5C3 := Lib.hid (cell_keep D4C3.out hb4); obtain ⟨y4_0, y4_1, y4_2⟩ := cell2 D5C2.out; obtain ⟨z4_0, z4_1, z4_2⟩ := cell2 D5C3.out)
        | (go_at_call 16; (with_reducible refine (agree_any _ _ _ a p p' u to_ n X5 D5HR.out D5Ha.out).mono ?_); rintro e X6 ⟨rfl, hb5⟩; have D6Ha := Lib.hid (D5Ha.out.later hb5); have D6Hb := Lib.hid (D5Hb.out.later hb5); have D6Ho := Lib.hid (D5Ho.out.later hb5); have D6HR := Lib.hid (D5HR.out.later hb5); have D6C2 := Lib.hid (cell_keep D5C2.out hb5); have D6C3 := Lib.hid (cell_keep D5C3.out hb5); obtain ⟨y5_0, y5_1, y5_2⟩ := cell2 D6C2.out; obtain ⟨z5_0, z5_1, z5_2⟩ := cell2 D6C3.out)
        | (go_at_call 16; (with_reducible refine (agree_any _ _ a _ rf rt fr v nb X6 D6Ha.out D6HR.out).mono ?_); rintro e X7 ⟨rfl, hb6⟩; have D7Ha := Lib.hid (D6Ha.out.later hb6); have D7Hb := Lib.hid (D6Hb.out.later hb6); have D7Ho := Lib.hid (D6Ho.out.later hb6); have D7HR := Lib.hid (D6HR.out.later hb6); have D7C2 := Lib.hid (cell_keep D6C2.out hb6); have D7C3 := Lib.hid (cell_keep D6C3.out hb6); obtain ⟨y6_0, y6_1, y6_2⟩ := cell2 D7C2.out; obtain ⟨z6_0, z6_1, z6_2⟩ := cell2 D7C3.out)
        | (go_at_call 17; (with_reducible refine (pick_any fr 8 _ hfr (by decide) (by decide)).mono ?_); rintro e wq ⟨rfl, rfl⟩; rw [← HU.out])
        | (go_at_call 17; (with_reducible refine (pick_any to_ 8 _ hto (by decide) (by decide)).mono ?_); rintro e wq ⟨rfl, rfl⟩; rw [← HV.out]))
    replace HW := Lib.hid (below_trans (below_trans (below_trans (below_trans (below_trans (below_trans (below_trans (below_trans HW.out (Below.refl _ _).drew) hb0) hb1) hb2) hb3) hb4) hb5) hb6)
    go_wp2_with fail
    go_ret
    exact ⟨rfl, HW.out⟩
  · replace HR := Lib.hid (holds_take HR.out (show 42 ≤ ls.length by omega))
    have hcr := holds_cap HR.out
    obtain ⟨C1_0, C1_1, C1_2, C1_3⟩ := cell3 C1.out
    obtain ⟨C2_0, C2_1, C2_2⟩ := cell2 C2.out
    go_wp2_with fail
    refine (piece_any rf rt _ hr0 hr1).mono ?_
    rw [← HP.out]
    rintro e W5 ⟨rfl, hb⟩
    clear C1_0 C1_1 C1_2 C1_3 C2_0 C2_1 C2_2
    replace HW := Lib.hid (below_trans HW.out hb)
    replace C1 := Lib.hid (cell_keep C1.out hb)
    replace C2 := Lib.hid (cell_keep C2.out hb)
    replace HR := Lib.hid (HR.out.later hb)
    replace Ha := Lib.hid (Ha.out.later hb)
    replace Hb := Lib.hid (Hb.out.later hb)
    replace Ho := Lib.hid (Ho.out.later hb)
    clear hb
    dsimp only
    obtain ⟨C1_0, C1_1, C1_2, C1_3⟩ := cell3 C1.out
    obtain ⟨C2_0, C2_1, C2_2⟩ := cell2 C2.out
    go_wp2_with fail
    obtain ⟨W6, hnew⟩ : ∃ W, W = W5.alloc (.cells #[.int .i64 p, .int .i64 p'] 26) := ⟨_, rfl⟩
    rw [← hnew]
    have C30 : Hid (W6.heap[W5.heap.size]? = some (.cells #[.int .i64 p, .int .i64 p'] 26)) := Lib.hid (by rw [hnew]; exact new_heap _ _)
    have hb : Below W5.heap.size W5 W6 := by rw [hnew]; exact below_al _ _
    clear hnew C1_0 C1_1 C1_2 C1_3 C2_0 C2_1 C2_2
    replace HW := Lib.hid (below_trans HW.out hb)
    replace C1 := Lib.hid (cell_keep C1.out hb)
    replace C2 := Lib.hid (cell_keep C2.out hb)
    replace HR := Lib.hid (HR.out.later hb)
    replace Ha := Lib.hid (Ha.out.later hb)
    replace Hb := Lib.hid (Hb.out.later hb)
    replace Ho := Lib.hid (Ho.out.later hb)
    clear hb
    have C3 := C30
    clear C30
    obtain ⟨C1_0, C1_1, C1_2, C1_3⟩ := cell3 C1.out
    obtain ⟨C2_0, C2_1, C2_2⟩ := cell2 C2.out
    obtain ⟨C3_0, C3_1, C3_2⟩ := cell2 C3.out
    go_wp2_with fail
    refine (near_any _ b wh n _ Hb.out BV.out hwh hn).mono ?_
    rw [← HNB.out]
    rintro e W7 ⟨rfl, hb⟩
    clear C1_0 C1_1 C1_2 C1_3 C2_0 C2_1 C2_2 C3_0 C3_1 C3_2
    replace HW := Lib.hid (below_trans HW.out hb)
    replace C1 := Lib.hid (cell_keep C1.out hb)
    replace C2 := Lib.hid (cell_keep C2.out hb)
    replace HR := Lib.hid (HR.out.later hb)
    replace Ha := Lib.hid (Ha.out.later hb)
    replace Hb := Lib.hid (Hb.out.later hb)
    replace Ho := Lib.hid (Ho.out.later hb)
    replace C3 := Lib.hid (cell_keep C3.out hb)
    clear hb
    have D0Ha := Lib.hid (show HoldsB W7.drew W7.drew.heap.size _ a from Ha.out)
    have D0Hb := Lib.hid (show HoldsB W7.drew W7.drew.heap.size _ b from Hb.out)
    have D0Ho := Lib.hid (show HoldsB W7.drew W7.drew.heap.size _ lo from Ho.out)
    have D0HR := Lib.hid (show HoldsB W7.drew W7.drew.heap.size _ _ from HR.out)
    have D0C2 : Hid (W7.drew.heap[_]? = _) := Lib.hid C2.out
    have D0C3 : Hid (W7.drew.heap[_]? = _) := Lib.hid C3.out
    obtain ⟨C1_0, C1_1, C1_2, C1_3⟩ := cell3 C1.out
    obtain ⟨C2_0, C2_1, C2_2⟩ := cell2 C2.out
    obtain ⟨C3_0, C3_1, C3_2⟩ := cell2 C3.out
    go_upto_region 10 with fail
    dsimp only [List.append]
    go_region_held3 (fun w' => w'.cell? ⟨W5.heap.size, 0, none⟩ = some (.int .i64 p) ∧ w'.cell? ⟨W5.heap.size, 1, none⟩ = some (.int .i64 p') ∧ w'.cell? ⟨w.heap.size + 1, 0, none⟩ = some (.int .i64 rf) ∧ w'.cell? ⟨w.heap.size + 1, 1, none⟩ = some (.int .i64 rt)) (go_keep)
      (first
        | (go_at_call 15; (with_reducible refine (near_any _ a wh n W7.drew D0Ha.out AV.out hwh hn).mono ?_); rintro e X1 ⟨rfl, hb0⟩; rw [← HNA.out]; have D1Ha := Lib.hid (D0Ha.out.later hb0); have D1Hb := Lib.hid (D0Hb.out.later hb0); have D1Ho := Lib.hid (D0Ho.out.later hb0); have D1HR := Lib.hid (D0HR.out.later hb0); have D1C2 := Lib.hid (cell_keep D0C2.out hb0); have D1C3 := Lib.hid (cell_keep D0C3.out hb0); obtain ⟨y0_0, y0_1, y0_2⟩ := cell2 D1C2.out; obtain ⟨z0_0, z0_1, z0_2⟩ := cell2 D1C3.out)
        | (go_at_call 16; (with_reducible refine (agree_any _ _ a b p p' u v na X1 D1Ha.out D1Hb.out).mono ?_); rintro e X2 ⟨rfl, hb1⟩; have D2Ha := Lib.hid (D1Ha.out.later hb1); have D2Hb := Lib.hid (D1Hb.out.later hb1); have D2Ho := Lib.hid (D1Ho.out.later hb1); have D2HR := Lib.hid (D1HR.out.later hb1); have D2C2 := Lib.hid (cell_keep D1C2.out hb1); have D2C3 := Lib.hid (cell_keep D1C3.out hb1); obtain ⟨y1_0, y1_1, y1_2⟩ := cell2 D2C2.out; obtain ⟨z1_0, z1_1, z1_2⟩ := cell2 D2C3.out)
        | (go_at_call 16; (with_reducible refine (agree_any _ _ a b rf rt fr to_ n X2 D2Ha.out D2Hb.out).mono ?_); rintro e X3 ⟨rfl, hb2⟩; have D3Ha := Lib.hid (D2Ha.out.later hb2); have D3Hb := Lib.hid (D2Hb.out.later hb2); have D3Ho := Lib.hid (D2Ho.out.later hb2); have D3HR := Lib.hid (D2HR.out.later hb2); have D3C2 := Lib.hid (cell_keep D2C2.out hb2); have D3C3 := Lib.hid (cell_keep D2C3.out hb2); obtain ⟨y2_0, y2_1, y2_2⟩ := cell2 D3C2.out; obtain ⟨z2_0, z2_1, z2_2⟩ := cell2 D3C3.out)
        | (go_at_call 16; (with_reducible refine (agree_any _ _ lo b p p' u v nb X3 D3Ho.out D3Hb.out).mono ?_); rintro e X4 ⟨rfl, hb3⟩; have D4Ha := Lib.hid (D3Ha.out.later hb3); have D4Hb := Lib.hid (D3Hb.out.later hb3); have D4Ho := Lib.hid (D3Ho.out.later hb3); have D4HR := Lib.hid (D3HR.out.later hb3); have D4C2 := Lib.hid (cell_keep D3C2.out hb3); have D4C3 := Lib.hid (cell_keep D3C3.out hb3); obtain ⟨y3_0, y3_1, y3_2⟩ := cell2 D4C2.out; obtain ⟨z3_0, z3_1, z3_2⟩ := cell2 D4C3.out)
        | (go_at_call 16; (with_reducible refine (agree_any _ _ b lo p p' u v nb X4 D4Hb.out D4Ho.out).mono ?_); rintro e X5 ⟨rfl, hb4⟩; have D5Ha := Lib.hid (D4Ha.out.later hb4); have D5Hb := Lib.hid (D4Hb.out.later hb4); have D5Ho := Lib.hid (D4Ho.out.later hb4); have D5HR := Lib.hid (D4HR.out.later hb4); have D5C2 := Lib.hid (cell_keep D4C2.out hb4); have D5C3 := Lib.hid (cell_keep D4C3.out hb4); obtain ⟨y4_0, y4_1, y4_2⟩ := cell2 D5C2.out; obtain ⟨z4_0, z4_1, z4_2⟩ := cell2 D5C3.out)
        | (go_at_call 16; (with_reducible refine (agree_any _ _ _ a p p' u to_ n X5 D5HR.out D5Ha.out).mono ?_); rintro e X6 ⟨rfl, hb5⟩; have D6Ha := Lib.hid (D5Ha.out.later hb5); have D6Hb := Lib.hid (D5Hb.out.later hb5); have D6Ho := Lib.hid (D5Ho.out.later hb5); have D6HR := Lib.hid (D5HR.out.later hb5); have D6C2 := Lib.hid (cell_keep D5C2.out hb5); have D6C3 := Lib.hid (cell_keep D5C3.out hb5); obtain ⟨y5_0, y5_1, y5_2⟩ := cell2 D6C2.out; obtain ⟨z5_0, z5_1, z5_2⟩ := cell2 D6C3.out)
        | (go_at_call 16; (with_reducible refine (agree_any _ _ a _ rf rt fr v nb X6 D6Ha.out D6HR.out).mono ?_); rintro e X7 ⟨rfl, hb6⟩; have D7Ha := Lib.hid (D6Ha.out.later hb6); have D7Hb := Lib.hid (D6Hb.out.later hb6); have D7Ho := Lib.hid (D6Ho.out.later hb6); have D7HR := Lib.hid (D6HR.out.later hb6); have D7C2 := Lib.hid (cell_keep D6C2.out hb6); have D7C3 := Lib.hid (cell_keep D6C3.out hb6); obtain ⟨y6_0, y6_1, y6_2⟩ := cell2 D7C2.out; obtain ⟨z6_0, z6_1, z6_2⟩ := cell2 D7C3.out)
        | (go_at_call 17; (with_reducible refine (pick_any fr 8 _ hfr (by decide) (by decide)).mono ?_); rintro e wq ⟨rfl, rfl⟩; rw [← HU.out])
        | (go_at_call 17; (with_reducible refine (pick_any to_ 8 _ hto (by decide) (by decide)).mono ?_); rintro e wq ⟨rfl, rfl⟩; rw [← HV.out]))
    replace HW := Lib.hid (below_trans (below_trans (below_trans (below_trans (below_trans (below_trans (below_trans (below_trans HW.out (Below.refl _ _).drew) hb0) hb1) hb2) hb3) hb4) hb5) hb6)
    go_wp2_with fail
    go_ret
    exact ⟨rfl, HW.out⟩
end Go.Proofs.Ytmgippddljmfjaa
