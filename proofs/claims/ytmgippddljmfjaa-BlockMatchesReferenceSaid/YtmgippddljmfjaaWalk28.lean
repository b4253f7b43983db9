/-
  The laws' agree: the functions and the reference return the same of any two lists.
-/
import Derived.Test.YtmgippddljmfjaaWalk27
namespace Go.Proofs.Ytmgippddljmfjaa
open Go Go.RowKit Go.Dial Go.Dial.Blk

theorem rfindH_any (v : Value) (bs : List B3) (n : Int) (w : World) (hv : HoldsB w w.heap.size v bs) : Calls Try.prog 39 #[v, .int .i64 n] w fun e w' => e = .returned (.tuple #[.int .i64 (findV bs n).1, .bool (findV bs n).2]) ∧ Below w.heap.size w w' := by
  obtain ⟨A, c, rfl, h1, h2, h3⟩ := hv
  exact rfind_any A c bs n w (Nat.le_trans h1 h2) h3
theorem rcountH_any (v : Value) (bs : List B3) (k : Int) (w : World) (hv : HoldsB w w.heap.size v bs) : Calls Try.prog 42 #[v, .int .i64 k] w fun e w' => e = .returned (.int .i64 (countV bs k)) ∧ Below w.heap.size w w' := by
  obtain ⟨A, c, rfl, h1, h2, h3⟩ := hv
  exact rcount_any A c bs k w (Nat.le_trans h1 h2) h3
theorem dec_same (l : List B3) : decide (l = l) = true := decide_eq_true rfl
theorem dec_sameR (l : List B3) : decide (l.map rngOf = l.map rngOf) = true := decide_eq_true rfl
set_option maxRecDepth 100000 in
set_option maxHeartbeats 8000000 in
theorem agree_any (va vb : Value) (a b : List B3) (f t fr to_ n : Int) (w : World) (hva : HoldsB w w.heap.size va a) (hvb : HoldsB w w.heap.size vb b) :
    Calls Try.prog 16 #[va, vb, .agg #[.int .i64 f, .int .i64 t], .int .i64 fr, .int .i64 to_, .int .i64 n] w fun e w' => e = .returned (.bool true) ∧ Below w.heap.size w w' := by
  obtain ⟨⟨f1, f2⟩, hFI⟩ : ∃ p, p = findV a n := ⟨_, rfl⟩
  have FI := Lib.hid hFI.symm
  clear hFI
  obtain ⟨⟨gl, ge⟩, hGI⟩ : ∃ p, p = giveV a f t to_ := ⟨_, rfl⟩
  have GI := Lib.hid hGI.symm
  clear hGI
  obtain ⟨⟨tl, te⟩, hTA⟩ : ∃ p, p = takeV a f t := ⟨_, rfl⟩
  have TA := Lib.hid hTA.symm
  clear hTA
  obtain ⟨⟨ol, oe⟩, hON⟩ : ∃ p, p = onlyV a f t := ⟨_, rfl⟩
  have ON := Lib.hid hON.symm
  clear hON
  obtain ⟨⟨vl, ve⟩, hOV⟩ : ∃ p, p = overlayV a b := ⟨_, rfl⟩
  have OV := Lib.hid hOV.symm
  clear hOV
  obtain ⟨⟨sl, se⟩, hSW⟩ : ∃ p, p = swapV a fr to_ := ⟨_, rfl⟩
  have SW := Lib.hid hSW.symm
  clear hSW
  obtain ⟨⟨dl, de⟩, hDI⟩ : ∃ p, p = diffV a b := ⟨_, rfl⟩
  have DI := Lib.hid hDI.symm
  clear hDI
  obtain ⟨⟨z1, z2⟩, hFR⟩ : ∃ p, p = freeV a n := ⟨_, rfl⟩
  have FR := Lib.hid hFR.symm
  clear hFR
  obtain ⟨bv, hbv⟩ : ∃ y, y = validB a := ⟨_, rfl⟩
  have BV := Lib.hid hbv.symm
  obtain ⟨cv, hcv⟩ : ∃ y, y = countV a to_ := ⟨_, rfl⟩
  have CV := Lib.hid hcv.symm
  clear hbv hcv
  obtain ⟨W0, hW0⟩ : ∃ W0, W0 = w.alloc (.cells #[.int .i64 f, .int .i64 t] 26) := ⟨_, rfl⟩
  have C9 : Hid (W0.heap[w.heap.size]? = some (.cells #[.int .i64 f, .int .i64 t] 26)) := Lib.hid (by rw [hW0]; exact new_heap _ _)
  have hb0 : Below w.heap.size w W0 := by rw [hW0]; exact below_al _ _
  have Ha := Lib.hid (hva.later hb0)
  have Hb := Lib.hid (hvb.later hb0)
  have HW := Lib.hid hb0
  have HWS := Lib.hid hW0
  clear hb0 hva hvb
  go_enter Try.func16, Try.ntmps16
  go_wp2_with fail
  rw [← HWS.out]
  clear hW0
  refine (findH_any _ a n _ Ha.out).mono ?_
  rw [FI.out]
  rintro e W1 ⟨rfl, hb⟩
  dsimp only
  replace HW := Lib.hid (below_trans HW.out hb)
  replace C9 := Lib.hid (cell_keep C9.out hb)
  replace Ha := Lib.hid (Ha.out.later hb)
  replace Hb := Lib.hid (Hb.out.later hb)
  clear hb
  obtain ⟨C9_0, C9_1, C9_2⟩ := cell2 C9.out
  go_wp2_with fail
  refine (rfindH_any _ a n _ Ha.out).mono ?_
  rw [FI.out]
  rintro e W2 ⟨rfl, hb⟩
  dsimp only
  clear C9_0 C9_1 C9_2
  replace HW := Lib.hid (below_trans HW.out hb)
  replace C9 := Lib.hid (cell_keep C9.out hb)
  replace Ha := Lib.hid (Ha.out.later hb)
  replace Hb := Lib.hid (Hb.out.later hb)
  clear hb
  obtain ⟨C9_0, C9_1, C9_2⟩ := cell2 C9.out
  go_wp2_with fail
  refine (give_any _ a f t to_ _ Ha.out).mono ?_
  rw [GI.out]
  rintro e W3 ⟨vg, rfl, h1, hb⟩
  clear C9_0 C9_1 C9_2
  dsimp only at h1 ⊢
  replace HW := Lib.hid (below_trans HW.out hb)
  replace C9 := Lib.hid (cell_keep C9.out hb)
  replace Ha := Lib.hid (Ha.out.later hb)
  replace Hb := Lib.hid (Hb.out.later hb)
  clear hb
  have Hg := Lib.hid h1
  clear h1
  obtain ⟨C9_0, C9_1, C9_2⟩ := cell2 C9.out
  go_wp2_with fail
  refine (rgive_any _ a f t to_ _ Ha.out).mono ?_
  rw [GI.out]
  rintro e W4 ⟨vh, rfl, h1, hb⟩
  clear C9_0 C9_1 C9_2
  dsimp only at h1 ⊢
  replace HW := Lib.hid (below_trans HW.out hb)
  replace C9 := Lib.hid (cell_keep C9.out hb)
  replace Ha := Lib.hid (Ha.out.later hb)
  replace Hb := Lib.hid (Hb.out.later hb)
  replace Hg := Lib.hid (Hg.out.later hb)
  clear hb
  have Hh := Lib.hid h1
  clear h1
  obtain ⟨C9_0, C9_1, C9_2⟩ := cell2 C9.out
  go_wp2_with fail
  refine (take_any _ a f t _ Ha.out).mono ?_
  rw [TA.out]
  rintro e W5 ⟨vt, rfl, h1, hb⟩
  clear C9_0 C9_1 C9_2
  dsimp only at h1 ⊢
  replace HW := Lib.hid (below_trans HW.out hb)
  replace C9 := Lib.hid (cell_keep C9.out hb)
  replace Ha := Lib.hid (Ha.out.later hb)
  replace Hb := Lib.hid (Hb.out.later hb)
  replace Hg := Lib.hid (Hg.out.later hb)
  replace Hh := Lib.hid (Hh.out.later hb)
  clear hb
  have Ht := Lib.hid h1
  clear h1
  obtain ⟨C9_0, C9_1, C9_2⟩ := cell2 C9.out
  go_wp2_with fail
  refine (rtake_any _ a f t _ Ha.out).mono ?_
  rw [TA.out]
  rintro e W6 ⟨vu, rfl, h1, hb⟩
  clear C9_0 C9_1 C9_2
  dsimp only at h1 ⊢
  replace HW := Lib.hid (below_trans HW.out hb)
  replace C9 := Lib.hid (cell_keep C9.out hb)
  replace Ha := Lib.hid (Ha.out.later hb)
  replace Hb := Lib.hid (Hb.out.later hb)
  replace Hg := Lib.hid (Hg.out.later hb)
  replace Hh := Lib.hid (Hh.out.later hb)
  replace Ht := Lib.hid (Ht.out.later hb)
  clear hb
  have Hu := Lib.hid h1
  clear h1
  obtain ⟨C9_0, C9_1, C9_2⟩ := cell2 C9.out
  go_wp2_with fail
  refine (only_any _ a f t _ Ha.out).mono ?_
  rw [ON.out]
  rintro e W7 ⟨vo, rfl, h1, hb⟩
  clear C9_0 C9_1 C9_2
  dsimp only at h1 ⊢
  replace HW := Lib.hid (below_trans HW.out hb)
  replace C9 := Lib.hid (cell_keep C9.out hb)
  replace Ha := Lib.hid (Ha.out.later hb)
  replace Hb := Lib.hid (Hb.out.later hb)
  replace Hg := Lib.hid (Hg.out.later hb)
  replace Hh := Lib.hid (Hh.out.later hb)
  replace Ht := Lib.hid (Ht.out.later hb)
  replace Hu := Lib.hid (Hu.out.later hb)
  clear hb
  have Ho := Lib.hid h1
  clear h1
  obtain ⟨C9_0, C9_1, C9_2⟩ := cell2 C9.out
  go_wp2_with fail
  refine (ronly_any _ a f t _ Ha.out).mono ?_
  rw [ON.out]
  rintro e W8 ⟨vp, rfl, h1, hb⟩
  clear C9_0 C9_1 C9_2
  dsimp only at h1 ⊢
  replace HW := Lib.hid (below_trans HW.out hb)
  replace C9 := Lib.hid (cell_keep C9.out hb)
  replace Ha := Lib.hid (Ha.out.later hb)
  replace Hb := Lib.hid (Hb.out.later hb)
  replace Hg := Lib.hid (Hg.out.later hb)
  replace Hh := Lib.hid (Hh.out.later hb)
  replace Ht := Lib.hid (Ht.out.later hb)
  replace Hu := Lib.hid (Hu.out.later hb)
  replace Ho := Lib.hid (Ho.out.later hb)
  clear hb
  have Hp := Lib.hid h1
  clear h1
  clear C9
  go_wp2_with fail
  refine (validH_any _ a _ Ha.out).mono ?_
  rw [BV.out]
  rintro e W9 ⟨rfl, hb⟩
  dsimp only
  replace HW := Lib.hid (below_trans HW.out hb)
  replace Ha := Lib.hid (Ha.out.later hb)
  replace Hb := Lib.hid (Hb.out.later hb)
  replace Hg := Lib.hid (Hg.out.later hb)
  replace Hh := Lib.hid (Hh.out.later hb)
  replace Ht := Lib.hid (Ht.out.later hb)
  replace Hu := Lib.hid (Hu.out.later hb)
  replace Ho := Lib.hid (Ho.out.later hb)
  replace Hp := Lib.hid (Hp.out.later hb)
  clear hb
  go_wp2_with fail
  refine (rvalidH_any _ a _ Ha.out).mono ?_
  rw [BV.out]
  rintro e W10 ⟨rfl, hb⟩
  dsimp only
  replace HW := Lib.hid (below_trans HW.out hb)
  replace Ha := Lib.hid (Ha.out.later hb)
  replace Hb := Lib.hid (Hb.out.later hb)
  replace Hg := Lib.hid (Hg.out.later hb)
  replace Hh := Lib.hid (Hh.out.later hb)
  replace Ht := Lib.hid (Ht.out.later hb)
  replace Hu := Lib.hid (Hu.out.later hb)
  replace Ho := Lib.hid (Ho.out.later hb)
  replace Hp := Lib.hid (Hp.out.later hb)
  clear hb
  go_wp2_with fail
  refine (countH_any _ a to_ _ Ha.out).mono ?_
  rw [CV.out]
  rintro e W11 ⟨rfl, hb⟩
  dsimp only
  replace HW := Lib.hid (below_trans HW.out hb)
  replace Ha := Lib.hid (Ha.out.later hb)
  replace Hb := Lib.hid (Hb.out.later hb)
  replace Hg := Lib.hid (Hg.out.later hb)
  replace Hh := Lib.hid (Hh.out.later hb)
  replace Ht := Lib.hid (Ht.out.later hb)
  replace Hu := Lib.hid (Hu.out.later hb)
  replace Ho := Lib.hid (Ho.out.later hb)
  replace Hp := Lib.hid (Hp.out.later hb)
  clear hb
  go_wp2_with fail
  refine (rcountH_any _ a to_ _ Ha.out).mono ?_
  rw [CV.out]
  rintro e W12 ⟨rfl, hb⟩
  dsimp only
  replace HW := Lib.hid (below_trans HW.out hb)
  replace Ha := Lib.hid (Ha.out.later hb)
  replace Hb := Lib.hid (Hb.out.later hb)
  replace Hg := Lib.hid (Hg.out.later hb)
  replace Hh := Lib.hid (Hh.out.later hb)
  replace Ht := Lib.hid (Ht.out.later hb)
  replace Hu := Lib.hid (Hu.out.later hb)
  replace Ho := Lib.hid (Ho.out.later hb)
  replace Hp := Lib.hid (Hp.out.later hb)
  clear hb
  go_wp2_with fail
  refine (same_any _ _ gl gl _ Hg.out Hh.out).mono ?_
  rw [dec_same]
  rintro e W13 ⟨rfl, hb⟩
  dsimp only
  replace HW := Lib.hid (below_trans HW.out hb)
  replace Ha := Lib.hid (Ha.out.later hb)
  replace Hb := Lib.hid (Hb.out.later hb)
  replace Hg := Lib.hid (Hg.out.later hb)
  replace Hh := Lib.hid (Hh.out.later hb)
  replace Ht := Lib.hid (Ht.out.later hb)
  replace Hu := Lib.hid (Hu.out.later hb)
  replace Ho := Lib.hid (Ho.out.later hb)
  replace Hp := Lib.hid (Hp.out.later hb)
  clear hb
  clear Hg Hh
  go_wp2_with fail
  refine (same_any _ _ tl tl _ Ht.out Hu.out).mono ?_
  rw [dec_same]
  rintro e W14 ⟨rfl, hb⟩
  dsimp only
  replace HW := Lib.hid (below_trans HW.out hb)
  replace Ha := Lib.hid (Ha.out.later hb)
  replace Hb := Lib.hid (Hb.out.later hb)
  replace Ht := Lib.hid (Ht.out.later hb)
  replace Hu := Lib.hid (Hu.out.later hb)
  replace Ho := Lib.hid (Ho.out.later hb)
  replace Hp := Lib.hid (Hp.out.later hb)
  clear hb
  clear Ht Hu
  go_wp2_with fail
  refine (same_any _ _ ol ol _ Ho.out Hp.out).mono ?_
  rw [dec_same]
  rintro e W15 ⟨rfl, hb⟩
  dsimp only
  replace HW := Lib.hid (below_trans HW.out hb)
  replace Ha := Lib.hid (Ha.out.later hb)
  replace Hb := Lib.hid (Hb.out.later hb)
  replace Ho := Lib.hid (Ho.out.later hb)
  replace Hp := Lib.hid (Hp.out.later hb)
  clear hb
  clear Ho Hp
  go_wp2_with fail
  refine (overlay_any _ _ a b _ Ha.out Hb.out).mono ?_
  rw [OV.out]
  rintro e W16 ⟨vv, rfl, h1, hb⟩
  dsimp only at h1 ⊢
  replace HW := Lib.hid (below_trans HW.out hb)
  replace Ha := Lib.hid (Ha.out.later hb)
  replace Hb := Lib.hid (Hb.out.later hb)
  clear hb
  have Hv := Lib.hid h1
  clear h1
  go_wp2_with fail
  refine (roverlay_any _ _ a b _ Ha.out Hb.out).mono ?_
  rw [OV.out]
  rintro e W17 ⟨vw, rfl, h1, hb⟩
  dsimp only at h1 ⊢
  replace HW := Lib.hid (below_trans HW.out hb)
  replace Ha := Lib.hid (Ha.out.later hb)
  replace Hb := Lib.hid (Hb.out.later hb)
  replace Hv := Lib.hid (Hv.out.later hb)
  clear hb
  have Hw := Lib.hid h1
  clear h1
  go_wp2_with fail
  refine (swap_any _ a fr to_ _ Ha.out).mono ?_
  rw [SW.out]
  rintro e W18 ⟨vx, rfl, h1, hb⟩
  dsimp only at h1 ⊢
  replace HW := Lib.hid (below_trans HW.out hb)
  replace Ha := Lib.hid (Ha.out.later hb)
  replace Hb := Lib.hid (Hb.out.later hb)
  replace Hv := Lib.hid (Hv.out.later hb)
  replace Hw := Lib.hid (Hw.out.later hb)
  clear hb
  have Hx := Lib.hid h1
  clear h1
  go_wp2_with fail
  refine (rswap_any _ a fr to_ _ Ha.out).mono ?_
  rw [SW.out]
  rintro e W19 ⟨vy, rfl, h1, hb⟩
  dsimp only at h1 ⊢
  replace HW := Lib.hid (below_trans HW.out hb)
  replace Ha := Lib.hid (Ha.out.later hb)
  replace Hb := Lib.hid (Hb.out.later hb)
  replace Hv := Lib.hid (Hv.out.later hb)
  replace Hw := Lib.hid (Hw.out.later hb)
  replace Hx := Lib.hid (Hx.out.later hb)
  clear hb
  have Hy := Lib.hid h1
  clear h1
  go_wp2_with fail
  refine (differ_any _ _ a b _ Ha.out Hb.out).mono ?_
  rw [DI.out]
  rintro e W20 ⟨vq, rfl, h1, hb⟩
  dsimp only at h1 ⊢
  replace HW := Lib.hid (below_trans HW.out hb)
  replace Ha := Lib.hid (Ha.out.later hb)
  replace Hb := Lib.hid (Hb.out.later hb)
  replace Hv := Lib.hid (Hv.out.later hb)
  replace Hw := Lib.hid (Hw.out.later hb)
  replace Hx := Lib.hid (Hx.out.later hb)
  replace Hy := Lib.hid (Hy.out.later hb)
  clear hb
  have Hq := Lib.hid h1
  clear h1
  go_wp2_with fail
  refine (rdiffer_any _ _ a b _ Ha.out Hb.out).mono ?_
  rw [DI.out]
  rintro e W21 ⟨vs, rfl, h1, hb⟩
  dsimp only at h1 ⊢
  replace HW := Lib.hid (below_trans HW.out hb)
  replace Ha := Lib.hid (Ha.out.later hb)
  replace Hb := Lib.hid (Hb.out.later hb)
  replace Hv := Lib.hid (Hv.out.later hb)
  replace Hw := Lib.hid (Hw.out.later hb)
  replace Hx := Lib.hid (Hx.out.later hb)
  replace Hy := Lib.hid (Hy.out.later hb)
  replace Hq := Lib.hid (Hq.out.later hb)
  clear hb
  have Hs := Lib.hid h1
  clear h1
  go_wp2_with fail
  refine (free_any _ a n _ Ha.out).mono ?_
  rw [FR.out]
  rintro e W22 ⟨rfl, hb⟩
  dsimp only
  replace HW := Lib.hid (below_trans HW.out hb)
  replace Ha := Lib.hid (Ha.out.later hb)
  replace Hb := Lib.hid (Hb.out.later hb)
  replace Hv := Lib.hid (Hv.out.later hb)
  replace Hw := Lib.hid (Hw.out.later hb)
  replace Hx := Lib.hid (Hx.out.later hb)
  replace Hy := Lib.hid (Hy.out.later hb)
  replace Hq := Lib.hid (Hq.out.later hb)
  replace Hs := Lib.hid (Hs.out.later hb)
  clear hb
  go_wp2_with fail
  refine (rfree_any _ a n _ Ha.out).mono ?_
  rw [FR.out]
  rintro e W23 ⟨rfl, hb⟩
  dsimp only
  replace HW := Lib.hid (below_trans HW.out hb)
  replace Ha := Lib.hid (Ha.out.later hb)
  replace Hb := Lib.hid (Hb.out.later hb)
  replace Hv := Lib.hid (Hv.out.later hb)
  replace Hw := Lib.hid (Hw.out.later hb)
  replace Hx := Lib.hid (Hx.out.later hb)
  replace Hy := Lib.hid (Hy.out.later hb)
  replace Hq := Lib.hid (Hq.out.later hb)
  replace Hs := Lib.hid (Hs.out.later hb)
  clear hb
  go_wp2_with fail
  refine (same_any _ _ vl vl _ Hv.out Hw.out).mono ?_
  rw [dec_same]
  rintro e W24 ⟨rfl, hb⟩
  dsimp only
  replace HW := Lib.hid (below_trans HW.out hb)
  replace Ha := Lib.hid (Ha.out.later hb)
  replace Hb := Lib.hid (Hb.out.later hb)
  replace Hv := Lib.hid (Hv.out.later hb)
  replace Hw := Lib.hid (Hw.out.later hb)
  replace Hx := Lib.hid (Hx.out.later hb)
  replace Hy := Lib.hid (Hy.out.later hb)
  replace Hq := Lib.hid (Hq.out.later hb)
  replace Hs := Lib.hid (Hs.out.later hb)
  clear hb
  go_wp2_with fail
  refine (same_any _ _ sl sl _ Hx.out Hy.out).mono ?_
  rw [dec_same]
  rintro e W25 ⟨rfl, hb⟩
  dsimp only
  replace HW := Lib.hid (below_trans HW.out hb)
  replace Ha := Lib.hid (Ha.out.later hb)
  replace Hb := Lib.hid (Hb.out.later hb)
  replace Hv := Lib.hid (Hv.out.later hb)
  replace Hw := Lib.hid (Hw.out.later hb)
  replace Hx := Lib.hid (Hx.out.later hb)
  replace Hy := Lib.hid (Hy.out.later hb)
  replace Hq := Lib.hid (Hq.out.later hb)
  replace Hs := Lib.hid (Hs.out.later hb)
  clear hb
  go_wp2_with fail
  refine (sameR_any _ _ dl dl _ Hq.out Hs.out).mono ?_
  rw [dec_sameR]
  rintro e W26 ⟨rfl, hb⟩
  dsimp only
  replace HW := Lib.hid (below_trans HW.out hb)
  replace Ha := Lib.hid (Ha.out.later hb)
  replace Hb := Lib.hid (Hb.out.later hb)
  replace Hv := Lib.hid (Hv.out.later hb)
  replace Hw := Lib.hid (Hw.out.later hb)
  replace Hx := Lib.hid (Hx.out.later hb)
  replace Hy := Lib.hid (Hy.out.later hb)
  replace Hq := Lib.hid (Hq.out.later hb)
  replace Hs := Lib.hid (Hs.out.later hb)
  clear hb
  go_wp2_with fail
  go_ret
  exact ⟨rfl, HW.out⟩
end Go.Proofs.Ytmgippddljmfjaa
