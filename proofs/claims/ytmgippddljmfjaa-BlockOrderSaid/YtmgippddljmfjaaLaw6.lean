/-
  The contract of the law BlockOrder: it returns true.
-/
import Derived.Test.YtmgippddljmfjaaWalk22
import Derived.Deep.DeepCutAuto
namespace Go.Proofs.Ytmgippddljmfjaa
open Go Go.RowKit Go.Dial Go.Dial.Blk

theorem cell_keep {W W' : World} {p : Nat} {o : Obj} (h : W.heap[p]? = some o) (hb : Below W.heap.size W W') : W'.heap[p]? = some o := (hb.block _ (Array.getElem?_eq_some_iff.1 h).1).trans h
theorem cell2 {W : World} {p : Nat} {x y : Value} {t : TypeId} (h : W.heap[p]? = some (.cells #[x, y] t)) : W.cell? ⟨p, 0, none⟩ = some x ∧ W.cell? ⟨p, 1, none⟩ = some y ∧ p < W.heap.size :=
  ⟨blk_cell (cs := [x, y]) h (i := 0) rfl, blk_cell (cs := [x, y]) h (i := 1) rfl, (Array.getElem?_eq_some_iff.1 h).1⟩
theorem car_pick (c : Int) : carB (pickV c 8) = true := by have := pickV_bd c (show (0 : Int) < 8 by decide); exact carB_iff.2 (by omega)
set_option maxRecDepth 100000 in
set_option maxHeartbeats 8000000 in
theorem law6_any (Ax : Option Addr) (cx : Nat) (xs : List (Int × Int × Int)) (r0 r1 s0 s1 one two : Int) (w : World) (hlen : xs.length ≤ maxLen) (hS : Span w w.heap.size 3 Ax xs.length (tcs xs))
    (hb : (∀ x ∈ xs, Tri x) ∧ I64 r0 ∧ I64 r1 ∧ I64 s0 ∧ I64 s1 ∧ I64 one ∧ I64 two) :
    Calls Try.prog 6 #[.slice Ax xs.length cx, .agg #[.int .i64 r0, .int .i64 r1], .agg #[.int .i64 s0, .int .i64 s1], .int .i64 one, .int .i64 two] w fun e w' => e = .returned (.bool true) ∧ Below w.heap.size w w' := by
  obtain ⟨ha, hr0, hr1, hs0, hs1, hx, hy⟩ := hb
  have A_mk := (made_mk xs).mono (Nat.min_le_right _ _)
  obtain ⟨A, hA⟩ : ∃ A, A = madeV xs := ⟨_, rfl⟩
  rw [← hA] at A_mk
  have HA := Lib.hid hA
  have P_rng := piece_rng r0 r1
  obtain ⟨⟨p, p'⟩, hp⟩ : ∃ p, p = pieceV r0 r1 := ⟨_, rfl⟩
  rw [← hp] at P_rng
  have HP := Lib.hid hp
  have Q_rng := piece_rng s0 s1
  obtain ⟨⟨q, q'⟩, hq⟩ : ∃ p, p = pieceV s0 s1 := ⟨_, rfl⟩
  rw [← hq] at Q_rng
  have HQ := Lib.hid hq
  have X_car := car_pick one
  obtain ⟨x, hx'⟩ : ∃ x, x = pickV one 8 := ⟨_, rfl⟩
  rw [← hx'] at X_car
  have HX := Lib.hid hx'
  have Y_car := car_pick two
  obtain ⟨y, hy'⟩ : ∃ y, y = pickV two 8 := ⟨_, rfl⟩
  rw [← hy'] at Y_car
  have HY := Lib.hid hy'
  dsimp only at P_rng Q_rng
  clear hA hp hq hx' hy'
  obtain ⟨B, eB, B_mk, hB⟩ := give_mk A_mk (by omega) P_rng X_car
  obtain ⟨C, eC, C_mk, hC⟩ := give_mk B_mk (by omega) Q_rng Y_car
  obtain ⟨D, eD, D_mk, hD⟩ := give_mk A_mk (by omega) Q_rng Y_car
  obtain ⟨H, eH, H_mk, hH⟩ := give_mk D_mk (by omega) P_rng X_car
  obtain ⟨R, eR, R_mk, hR⟩ := give_mk C_mk (by omega) Q_rng Y_car
  have EB := Lib.hid eB
  have EC := Lib.hid eC
  have ED := Lib.hid eD
  have EH := Lib.hid eH
  have ER := Lib.hid eR
  have hRC : R = C := same_hold R_mk.1 C_mk.1 fun n => by rw [hR, hC]; split <;> rfl
  have HRC := Lib.hid hRC
  have HCn : Hid (∀ n, hold C n = if q ≤ n ∧ n < q' then y else if p ≤ n ∧ n < p' then x else hold A n) := Lib.hid fun n => by rw [hC, hB]
  have HHn : Hid (∀ n, hold H n = if p ≤ n ∧ n < p' then x else if q ≤ n ∧ n < q' then y else hold A n) := Lib.hid fun n => by rw [hH, hD]
  rw [rngB_iff] at P_rng Q_rng
  obtain ⟨pa, pb, pc⟩ := P_rng
  obtain ⟨qa, qb, qc⟩ := Q_rng
  have CM := Lib.hid C_mk
  have HM := Lib.hid H_mk
  rw [carB_iff] at X_car Y_car
  clear hRC eB eC eD eH eR hB hC hD hH hR B_mk C_mk D_mk H_mk R_mk A_mk
  have HW : Hid (Below w.heap.size w w) := Lib.hid (Below.refl _ _)
  obtain ⟨W0, hW0⟩ : ∃ W0, W0 = (w.alloc (.cells #[.int .i64 r0, .int .i64 r1] 35)).alloc (.cells #[.int .i64 s0, .int .i64 s1] 35) := ⟨_, rfl⟩
  have C6 : Hid (W0.heap[w.heap.size]? = some (.cells #[.int .i64 r0, .int .i64 r1] 35)) := Lib.hid (by rw [hW0]; exact alloc_old _ (new_heap _ _))
  have C7 : Hid (W0.heap[w.heap.size + 1]? = some (.cells #[.int .i64 s0, .int .i64 s1] 35)) := Lib.hid (by rw [hW0]; have := new_heap (w.alloc (.cells #[.int .i64 r0, .int .i64 r1] 35)) (.cells #[.int .i64 s0, .int .i64 s1] 35); rwa [World.size_alloc] at this)
  have hb0 : Below w.heap.size w W0 := by rw [hW0]; exact below_al2 _ _ _
  have HS0 : Hid (Span W0 W0.heap.size 3 Ax xs.length (tcs xs)) := Lib.hid ((hS.below hb0 (Nat.le_refl _)).mono hb0.size)
  clear HW
  have HW := Lib.hid hb0
  have HWS := Lib.hid hW0
  clear hb0 hS
  go_enter Try.func6, Try.ntmps6
  go_wp2_with fail
  rw [← HWS.out]
  clear hW0
  refine (sane_any _).mono ?_
  rintro e W1 ⟨rfl, hb⟩
  replace HW := Lib.hid (below_trans HW.out hb)
  replace C6 := Lib.hid (cell_keep C6.out hb)
  replace C7 := Lib.hid (cell_keep C7.out hb)
  replace HS0 := Lib.hid ((HS0.out.below hb (Nat.le_refl _)).mono hb.size)
  clear hb
  obtain ⟨C6_0, C6_1, C6_2⟩ := cell2 C6.out
  obtain ⟨C7_0, C7_1, C7_2⟩ := cell2 C7.out
  go_wp2_with fail
  refine (made_any Ax cx xs _ hlen HS0.out ha).mono ?_
  rintro e W2 ⟨⟨v12, rfl, h1⟩, hb⟩
  clear C6_0 C6_1 C6_2 C7_0 C7_1 C7_2
  clear HS0
  replace HW := Lib.hid (below_trans HW.out hb)
  replace C6 := Lib.hid (cell_keep C6.out hb)
  replace C7 := Lib.hid (cell_keep C7.out hb)
  clear hb
  rw [← HA.out] at h1
  have Ha := Lib.hid h1
  clear h1
  obtain ⟨C6_0, C6_1, C6_2⟩ := cell2 C6.out
  obtain ⟨C7_0, C7_1, C7_2⟩ := cell2 C7.out
  go_wp2_with fail
  refine (piece_any r0 r1 _ hr0 hr1).mono ?_
  rintro e W3 ⟨rfl, hb⟩
  clear C6_0 C6_1 C6_2 C7_0 C7_1 C7_2
  replace HW := Lib.hid (below_trans HW.out hb)
  replace C6 := Lib.hid (cell_keep C6.out hb)
  replace C7 := Lib.hid (cell_keep C7.out hb)
  replace Ha := Lib.hid (Ha.out.later hb)
  clear hb
  rw [← HP.out]
  dsimp only
  obtain ⟨C6_0, C6_1, C6_2⟩ := cell2 C6.out
  obtain ⟨C7_0, C7_1, C7_2⟩ := cell2 C7.out
  go_wp2_with fail
  obtain ⟨W4, hnew⟩ : ∃ W, W = W3.alloc (.cells #[.int .i64 p, .int .i64 p'] 26) := ⟨_, rfl⟩
  rw [← hnew]
  have C130 := Lib.hid (show W4.heap[W3.heap.size]? = some (.cells #[.int .i64 p, .int .i64 p'] 26) by rw [hnew]; exact new_heap _ _)
  have hb : Below W3.heap.size W3 W4 := by rw [hnew]; exact below_al _ _
  clear hnew C6_0 C6_1 C6_2 C7_0 C7_1 C7_2
  replace HW := Lib.hid (below_trans HW.out hb)
  replace C6 := Lib.hid (cell_keep C6.out hb)
  replace C7 := Lib.hid (cell_keep C7.out hb)
  replace Ha := Lib.hid (Ha.out.later hb)
  clear hb
  have C13 := C130
  clear C130
  refine (piece_any s0 s1 _ hs0 hs1).mono ?_
  rintro e W5 ⟨rfl, hb⟩
  replace HW := Lib.hid (below_trans HW.out hb)
  replace C6 := Lib.hid (cell_keep C6.out hb)
  replace C7 := Lib.hid (cell_keep C7.out hb)
  replace Ha := Lib.hid (Ha.out.later hb)
  replace C13 := Lib.hid (cell_keep C13.out hb)
  clear hb
  rw [← HQ.out]
  dsimp only
  obtain ⟨C6_0, C6_1, C6_2⟩ := cell2 C6.out
  obtain ⟨C7_0, C7_1, C7_2⟩ := cell2 C7.out
  obtain ⟨C13_0, C13_1, C13_2⟩ := cell2 C13.out
  go_wp2_with fail
  obtain ⟨W6, hnew⟩ : ∃ W, W = W5.alloc (.cells #[.int .i64 q, .int .i64 q'] 26) := ⟨_, rfl⟩
  rw [← hnew]
  have C140 := Lib.hid (show W6.heap[W5.heap.size]? = some (.cells #[.int .i64 q, .int .i64 q'] 26) by rw [hnew]; exact new_heap _ _)
  have hb : Below W5.heap.size W5 W6 := by rw [hnew]; exact below_al _ _
  clear hnew C6_0 C6_1 C6_2 C7_0 C7_1 C7_2 C13_0 C13_1 C13_2
  replace HW := Lib.hid (below_trans HW.out hb)
  replace C6 := Lib.hid (cell_keep C6.out hb)
  replace C7 := Lib.hid (cell_keep C7.out hb)
  replace Ha := Lib.hid (Ha.out.later hb)
  replace C13 := Lib.hid (cell_keep C13.out hb)
  clear hb
  have C14 := C140
  clear C140
  clear C6 C7
  refine (pick_any one 8 _ hx (by decide) (by decide)).mono ?_
  rintro e wq ⟨rfl, rfl⟩
  rw [← HX.out]
  obtain ⟨C13_0, C13_1, C13_2⟩ := cell2 C13.out
  obtain ⟨C14_0, C14_1, C14_2⟩ := cell2 C14.out
  go_wp2_with fail
  refine (pick_any two 8 _ hy (by decide) (by decide)).mono ?_
  rintro e wq ⟨rfl, rfl⟩
  rw [← HY.out]
  clear C13_0 C13_1 C13_2 C14_0 C14_1 C14_2
  obtain ⟨C13_0, C13_1, C13_2⟩ := cell2 C13.out
  obtain ⟨C14_0, C14_1, C14_2⟩ := cell2 C14.out
  go_wp2_with fail
  refine (give_any _ A p p' x _ Ha.out).mono ?_
  rw [EB.out]
  rintro e W7 ⟨vB, rfl, h1, hb⟩
  clear C13_0 C13_1 C13_2 C14_0 C14_1 C14_2
  dsimp only at h1 ⊢
  replace HW := Lib.hid (below_trans HW.out hb)
  replace Ha := Lib.hid (Ha.out.later hb)
  replace C13 := Lib.hid (cell_keep C13.out hb)
  replace C14 := Lib.hid (cell_keep C14.out hb)
  clear hb
  have Hb := Lib.hid h1
  clear h1
  obtain ⟨C13_0, C13_1, C13_2⟩ := cell2 C13.out
  obtain ⟨C14_0, C14_1, C14_2⟩ := cell2 C14.out
  go_wp2_with fail
  refine (give_any _ B q q' y _ Hb.out).mono ?_
  rw [EC.out]
  rintro e W8 ⟨vC, rfl, h1, hb⟩
  clear C13_0 C13_1 C13_2 C14_0 C14_1 C14_2
  dsimp only at h1 ⊢
  replace HW := Lib.hid (below_trans HW.out hb)
  replace Ha := Lib.hid (Ha.out.later hb)
  replace C13 := Lib.hid (cell_keep C13.out hb)
  replace C14 := Lib.hid (cell_keep C14.out hb)
  replace Hb := Lib.hid (Hb.out.later hb)
  clear hb
  have Hc := Lib.hid h1
  clear h1
  clear Hb
  obtain ⟨C13_0, C13_1, C13_2⟩ := cell2 C13.out
  obtain ⟨C14_0, C14_1, C14_2⟩ := cell2 C14.out
  go_wp2_with fail
  refine (give_any _ A q q' y _ Ha.out).mono ?_
  rw [ED.out]
  rintro e W9 ⟨vD, rfl, h1, hb⟩
  clear C13_0 C13_1 C13_2 C14_0 C14_1 C14_2
  dsimp only at h1 ⊢
  replace HW := Lib.hid (below_trans HW.out hb)
  replace Ha := Lib.hid (Ha.out.later hb)
  replace C13 := Lib.hid (cell_keep C13.out hb)
  replace C14 := Lib.hid (cell_keep C14.out hb)
  replace Hc := Lib.hid (Hc.out.later hb)
  clear hb
  have Hd := Lib.hid h1
  clear h1
  clear Ha
  obtain ⟨C13_0, C13_1, C13_2⟩ := cell2 C13.out
  obtain ⟨C14_0, C14_1, C14_2⟩ := cell2 C14.out
  go_wp2_with fail
  refine (give_any _ D p p' x _ Hd.out).mono ?_
  rw [EH.out]
  rintro e W10 ⟨vH, rfl, h1, hb⟩
  clear C13_0 C13_1 C13_2 C14_0 C14_1 C14_2
  dsimp only at h1 ⊢
  replace HW := Lib.hid (below_trans HW.out hb)
  replace C13 := Lib.hid (cell_keep C13.out hb)
  replace C14 := Lib.hid (cell_keep C14.out hb)
  replace Hc := Lib.hid (Hc.out.later hb)
  replace Hd := Lib.hid (Hd.out.later hb)
  clear hb
  have Hh := Lib.hid h1
  clear h1
  clear Hd
  by_cases d1 : p' ≤ q
  · have hCH : C = H := same_hold CM.out.1 HM.out.1 fun n => by rw [HCn.out, HHn.out]; repeat' split <;> omega
    have HCH := Lib.hid hCH
    clear hCH
    obtain ⟨C13_0, C13_1, C13_2⟩ := cell2 C13.out
    obtain ⟨C14_0, C14_1, C14_2⟩ := cell2 C14.out
    go_wp2_with fail
    refine (same_any _ _ C H _ Hc.out Hh.out).mono ?_
    rintro e W11 ⟨rfl, hb⟩
    clear C13_0 C13_1 C13_2 C14_0 C14_1 C14_2
    rw [decide_eq_true HCH.out]
    replace HW := Lib.hid (below_trans HW.out hb)
    replace C13 := Lib.hid (cell_keep C13.out hb)
    replace C14 := Lib.hid (cell_keep C14.out hb)
    replace Hc := Lib.hid (Hc.out.later hb)
    replace Hh := Lib.hid (Hh.out.later hb)
    clear hb
    go_wp2_with fail
    go_ret
    exact ⟨rfl, HW.out⟩
  · by_cases d2 : q' ≤ p
    · have hCH : C = H := same_hold CM.out.1 HM.out.1 fun n => by rw [HCn.out, HHn.out]; repeat' split <;> omega
      have HCH := Lib.hid hCH
      clear hCH
      obtain ⟨C13_0, C13_1, C13_2⟩ := cell2 C13.out
      obtain ⟨C14_0, C14_1, C14_2⟩ := cell2 C14.out
      go_wp2_with fail
      refine (same_any _ _ C H _ Hc.out Hh.out).mono ?_
      rintro e W11 ⟨rfl, hb⟩
      clear C13_0 C13_1 C13_2 C14_0 C14_1 C14_2
      rw [decide_eq_true HCH.out]
      replace HW := Lib.hid (below_trans HW.out hb)
      replace C13 := Lib.hid (cell_keep C13.out hb)
      replace C14 := Lib.hid (cell_keep C14.out hb)
      replace Hc := Lib.hid (Hc.out.later hb)
      replace Hh := Lib.hid (Hh.out.later hb)
      clear hb
      go_wp2_with fail
      go_ret
      exact ⟨rfl, HW.out⟩
    · rcases Int.lt_or_le p q with hpq | hpq
      · have hk1 : hold C q = y := by rw [HCn.out, if_pos (by omega)]
        have hk2 : hold H q = x := by rw [HHn.out, if_pos (by omega)]
        have HK1 := Lib.hid hk1
        have HK2 := Lib.hid hk2
        clear hk1 hk2
        obtain ⟨C13_0, C13_1, C13_2⟩ := cell2 C13.out
        obtain ⟨C14_0, C14_1, C14_2⟩ := cell2 C14.out
        go_wp2_with fail
        refine (give_any _ C q q' y _ Hc.out).mono ?_
        rw [ER.out]
        rintro e W11 ⟨vR, rfl, h1, hb⟩
        clear C13_0 C13_1 C13_2 C14_0 C14_1 C14_2
        dsimp only at h1 ⊢
        replace HW := Lib.hid (below_trans HW.out hb)
        replace C13 := Lib.hid (cell_keep C13.out hb)
        replace C14 := Lib.hid (cell_keep C14.out hb)
        replace Hc := Lib.hid (Hc.out.later hb)
        replace Hh := Lib.hid (Hh.out.later hb)
        clear hb
        have Hr := Lib.hid h1
        clear h1
        obtain ⟨C13_0, C13_1, C13_2⟩ := cell2 C13.out
        obtain ⟨C14_0, C14_1, C14_2⟩ := cell2 C14.out
        go_wp2_with fail
        refine (same_any _ _ R C _ Hr.out Hc.out).mono ?_
        rintro e W12 ⟨rfl, hb⟩
        clear C13_0 C13_1 C13_2 C14_0 C14_1 C14_2
        rw [decide_eq_true HRC.out]
        replace HW := Lib.hid (below_trans HW.out hb)
        replace C13 := Lib.hid (cell_keep C13.out hb)
        replace C14 := Lib.hid (cell_keep C14.out hb)
        replace Hc := Lib.hid (Hc.out.later hb)
        replace Hh := Lib.hid (Hh.out.later hb)
        replace Hr := Lib.hid (Hr.out.later hb)
        clear hb
        clear Hr
        obtain ⟨C13_0, C13_1, C13_2⟩ := cell2 C13.out
        obtain ⟨C14_0, C14_1, C14_2⟩ := cell2 C14.out
        go_wp2_with fail
        refine (holder_any _ C q _ Hc.out (CM.out.valid (by omega))).mono ?_
        rintro e W13 ⟨rfl, hb⟩
        clear C13_0 C13_1 C13_2 C14_0 C14_1 C14_2
        rw [HK1.out]
        replace HW := Lib.hid (below_trans HW.out hb)
        replace C13 := Lib.hid (cell_keep C13.out hb)
        replace C14 := Lib.hid (cell_keep C14.out hb)
        replace Hc := Lib.hid (Hc.out.later hb)
        replace Hh := Lib.hid (Hh.out.later hb)
        clear hb
        have ty : (y == y) = true := by simp
        have tx : (x == x) = true := by simp
        obtain ⟨C13_0, C13_1, C13_2⟩ := cell2 C13.out
        obtain ⟨C14_0, C14_1, C14_2⟩ := cell2 C14.out
        go_wp2_with fail
        refine (holder_any _ H q _ Hh.out (HM.out.valid (by omega))).mono ?_
        rintro e W14 ⟨rfl, hb⟩
        clear C13_0 C13_1 C13_2 C14_0 C14_1 C14_2
        rw [HK2.out]
        replace HW := Lib.hid (below_trans HW.out hb)
        replace C13 := Lib.hid (cell_keep C13.out hb)
        replace C14 := Lib.hid (cell_keep C14.out hb)
        replace Hc := Lib.hid (Hc.out.later hb)
        replace Hh := Lib.hid (Hh.out.later hb)
        clear hb
        by_cases hxy : x = y
        · have hCH : C = H := same_hold CM.out.1 HM.out.1 fun n => by rw [HCn.out, HHn.out, hxy]; repeat' split <;> first | rfl | omega
          have HCH := Lib.hid hCH
          have tn : (x != y) = false := by rw [hxy]; simp
          clear hCH hxy
          obtain ⟨C13_0, C13_1, C13_2⟩ := cell2 C13.out
          obtain ⟨C14_0, C14_1, C14_2⟩ := cell2 C14.out
          go_wp2_with fail
          refine (same_any _ _ C H _ Hc.out Hh.out).mono ?_
          rintro e W15 ⟨rfl, hb⟩
          clear C13_0 C13_1 C13_2 C14_0 C14_1 C14_2
          rw [decide_eq_true HCH.out]
          replace HW := Lib.hid (below_trans HW.out hb)
          replace C13 := Lib.hid (cell_keep C13.out hb)
          replace C14 := Lib.hid (cell_keep C14.out hb)
          replace Hc := Lib.hid (Hc.out.later hb)
          replace Hh := Lib.hid (Hh.out.later hb)
          clear hb
          go_wp2_with fail
          go_ret
          exact ⟨rfl, HW.out⟩
        · have tn : (x != y) = true := by rw [bne_iff_ne]; exact hxy
          clear hxy
          obtain ⟨C13_0, C13_1, C13_2⟩ := cell2 C13.out
          obtain ⟨C14_0, C14_1, C14_2⟩ := cell2 C14.out
          go_wp2_with fail
          go_ret
          exact ⟨rfl, HW.out⟩
      · have hk1 : hold C p = y := by rw [HCn.out, if_pos (by omega)]
        have hk2 : hold H p = x := by rw [HHn.out, if_pos (by omega)]
        have HK1 := Lib.hid hk1
        have HK2 := Lib.hid hk2
        clear hk1 hk2
        obtain ⟨C13_0, C13_1, C13_2⟩ := cell2 C13.out
        obtain ⟨C14_0, C14_1, C14_2⟩ := cell2 C14.out
        go_wp2_with fail
        refine (give_any _ C q q' y _ Hc.out).mono ?_
        rw [ER.out]
        rintro e W11 ⟨vR, rfl, h1, hb⟩
        clear C13_0 C13_1 C13_2 C14_0 C14_1 C14_2
        dsimp only at h1 ⊢
        replace HW := Lib.hid (below_trans HW.out hb)
        replace C13 := Lib.hid (cell_keep C13.out hb)
        replace C14 := Lib.hid (cell_keep C14.out hb)
        replace Hc := Lib.hid (Hc.out.later hb)
        replace Hh := Lib.hid (Hh.out.later hb)
        clear hb
        have Hr := Lib.hid h1
        clear h1
        obtain ⟨C13_0, C13_1, C13_2⟩ := cell2 C13.out
        obtain ⟨C14_0, C14_1, C14_2⟩ := cell2 C14.out
        go_wp2_with fail
        refine (same_any _ _ R C _ Hr.out Hc.out).mono ?_
        rintro e W12 ⟨rfl, hb⟩
        clear C13_0 C13_1 C13_2 C14_0 C14_1 C14_2
        rw [decide_eq_true HRC.out]
        replace HW := Lib.hid (below_trans HW.out hb)
        replace C13 := Lib.hid (cell_keep C13.out hb)
        replace C14 := Lib.hid (cell_keep C14.out hb)
        replace Hc := Lib.hid (Hc.out.later hb)
        replace Hh := Lib.hid (Hh.out.later hb)
        replace Hr := Lib.hid (Hr.out.later hb)
        clear hb
        clear Hr
        obtain ⟨C13_0, C13_1, C13_2⟩ := cell2 C13.out
        obtain ⟨C14_0, C14_1, C14_2⟩ := cell2 C14.out
        go_wp2_with fail
        refine (holder_any _ C p _ Hc.out (CM.out.valid (by omega))).mono ?_
        rintro e W13 ⟨rfl, hb⟩
        clear C13_0 C13_1 C13_2 C14_0 C14_1 C14_2
        rw [HK1.out]
        replace HW := Lib.hid (below_trans HW.out hb)
        replace C13 := Lib.hid (cell_keep C13.out hb)
        replace C14 := Lib.hid (cell_keep C14.out hb)
        replace Hc := Lib.hid (Hc.out.later hb)
        replace Hh := Lib.hid (Hh.out.later hb)
        clear hb
        have ty : (y == y) = true := by simp
        have tx : (x == x) = true := by simp
        obtain ⟨C13_0, C13_1, C13_2⟩ := cell2 C13.out
        obtain ⟨C14_0, C14_1, C14_2⟩ := cell2 C14.out
        go_wp2_with fail
        refine (holder_any _ H p _ Hh.out (HM.out.valid (by omega))).mono ?_
        rintro e W14 ⟨rfl, hb⟩
        clear C13_0 C13_1 C13_2 C14_0 C14_1 C14_2
        rw [HK2.out]
        replace HW := Lib.hid (below_trans HW.out hb)
        replace C13 := Lib.hid (cell_keep C13.out hb)
        replace C14 := Lib.hid (cell_keep C14.out hb)
        replace Hc := Lib.hid (Hc.out.later hb)
        replace Hh := Lib.hid (Hh.out.later hb)
        clear hb
        by_cases hxy : x = y
        · have hCH : C = H := same_hold CM.out.1 HM.out.1 fun n => by rw [HCn.out, HHn.out, hxy]; repeat' split <;> first | rfl | omega
          have HCH := Lib.hid hCH
          have tn : (x != y) = false := by rw [hxy]; simp
          clear hCH hxy
          obtain ⟨C13_0, C13_1, C13_2⟩ := cell2 C13.out
          obtain ⟨C14_0, C14_1, C14_2⟩ := cell2 C14.out
          go_wp2_with fail
          refine (same_any _ _ C H _ Hc.out Hh.out).mono ?_
          rintro e W15 ⟨rfl, hb⟩
          clear C13_0 C13_1 C13_2 C14_0 C14_1 C14_2
          rw [decide_eq_true HCH.out]
          replace HW := Lib.hid (below_trans HW.out hb)
          replace C13 := Lib.hid (cell_keep C13.out hb)
          replace C14 := Lib.hid (cell_keep C14.out hb)
          replace Hc := Lib.hid (Hc.out.later hb)
          replace Hh := Lib.hid (Hh.out.later hb)
          clear hb
          go_wp2_with fail
          go_ret
          exact ⟨rfl, HW.out⟩
        · have tn : (x != y) = true := by rw [bne_iff_ne]; exact hxy
          clear hxy
          obtain ⟨C13_0, C13_1, C13_2⟩ := cell2 C13.out
          obtain ⟨C14_0, C14_1, C14_2⟩ := cell2 C14.out
          go_wp2_with fail
          go_ret
          exact ⟨rfl, HW.out⟩
end Go.Proofs.Ytmgippddljmfjaa
