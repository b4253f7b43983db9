/-
  The laws' sane: the chapter's examples hold.
-/
import Derived.Test.YtmgippddljmfjaaWalk21
namespace Go.Proofs.Ytmgippddljmfjaa
open Go Go.RowKit Go.Dial Go.Dial.Blk

theorem countH_any (v : Value) (bs : List B3) (k : Int) (w : World) (hv : HoldsB w w.heap.size v bs) : Calls Try.prog 30 #[v, .int .i64 k] w fun e w' => e = .returned (.int .i64 (countV bs k)) ∧ Below w.heap.size w w' := by
  obtain ⟨A, c, rfl, h1, h2, h3⟩ := hv
  exact count_any A c bs k w (Nat.le_trans h1 h2) h3
theorem holdsR_lit (w : World) (l : List B3) (hl : l.length ≤ 1000) : HoldsR (w.alloc (.cells (dcs l).toArray 26)) (w.heap.size + 1) (.slice (some ⟨w.heap.size, 0, none⟩) l.length l.length) l :=
  ⟨_, _, rfl, Nat.le_refl _, by unfold maxLen; omega, dcs_len l, fun j u hu => ⟨_, rfl, Nat.lt_succ_self _, World.news_of_block (cs := (dcs l).toArray) (new_heap _ _) j u (by simpa using hu)⟩⟩
set_option maxRecDepth 100000 in
set_option maxHeartbeats 8000000 in
theorem sane_any (w : World) : Calls Try.prog 11 #[] w fun e w' => e = .returned (.bool true) ∧ Below w.heap.size w w' := by
  go_enter Try.func11, Try.ntmps11
  go_wp2_with fail
  refine (mk1_any 100 200 (1) _).mono ?_
  rintro e w1 ⟨rfl, hb⟩
  have HW := Lib.hid hb
  clear hb
  go_wp2_with fail
  refine (mk1_any 200 300 (2) _).mono ?_
  rintro e w2 ⟨rfl, hb⟩
  replace HW := Lib.hid (below_trans HW.out hb)
  clear hb
  go_wp2_with fail
  obtain ⟨w3, hnew⟩ : ∃ W, W = w2.alloc (.cells #[.int .i64 100, .int .i64 200, .int .i64 1, .int .i64 200, .int .i64 300, .int .i64 2] 53) := ⟨_, rfl⟩
  rw [← hnew]
  have Hm : Hid (HoldsB w3 w3.heap.size (.slice (some ⟨w2.heap.size, 0, none⟩) 2 2) exM) := Lib.hid (by rw [hnew, World.size_alloc]; exact holds_lit w2 exM (by decide))
  have hb : Below w2.heap.size w2 w3 := by rw [hnew]; exact below_al _ _
  clear hnew
  replace HW := Lib.hid (below_trans HW.out hb)
  clear hb
  go_wp2_with fail
  refine (give_any _ exM 150 250 3 _ Hm.out).mono ?_
  rw [ex_give1]
  rintro e w4 ⟨vg, rfl, h1, hb⟩
  dsimp only at h1 ⊢
  replace HW := Lib.hid (below_trans HW.out hb)
  replace Hm := Lib.hid (Hm.out.later hb)
  clear hb
  have Hg := Lib.hid h1
  clear h1
  go_wp2_with fail
  refine (give_any _ exM 200 300 1 _ Hm.out).mono ?_
  rw [ex_give2]
  rintro e w5 ⟨vh, rfl, h1, hb⟩
  dsimp only at h1 ⊢
  replace HW := Lib.hid (below_trans HW.out hb)
  replace Hm := Lib.hid (Hm.out.later hb)
  replace Hg := Lib.hid (Hg.out.later hb)
  clear hb
  have Hh := Lib.hid h1
  clear h1
  go_wp2_with fail
  refine (take_any _ exM 0 101 _ Hm.out).mono ?_
  rw [ex_take]
  rintro e w6 ⟨vt, rfl, h1, hb⟩
  dsimp only at h1 ⊢
  replace HW := Lib.hid (below_trans HW.out hb)
  replace Hm := Lib.hid (Hm.out.later hb)
  replace Hg := Lib.hid (Hg.out.later hb)
  replace Hh := Lib.hid (Hh.out.later hb)
  clear hb
  have Ht := Lib.hid h1
  clear h1
  go_wp2_with fail
  refine (only_any _ exM 0 101 _ Hm.out).mono ?_
  rw [ex_only]
  rintro e w7 ⟨vo, rfl, h1, hb⟩
  dsimp only at h1 ⊢
  replace HW := Lib.hid (below_trans HW.out hb)
  replace Hm := Lib.hid (Hm.out.later hb)
  replace Hg := Lib.hid (Hg.out.later hb)
  replace Hh := Lib.hid (Hh.out.later hb)
  replace Ht := Lib.hid (Ht.out.later hb)
  clear hb
  have Ho := Lib.hid h1
  clear h1
  go_wp2_with fail
  refine (mk1_any 250 400 (2) _).mono ?_
  rintro e w8 ⟨rfl, hb⟩
  replace HW := Lib.hid (below_trans HW.out hb)
  replace Hm := Lib.hid (Hm.out.later hb)
  replace Hg := Lib.hid (Hg.out.later hb)
  replace Hh := Lib.hid (Hh.out.later hb)
  replace Ht := Lib.hid (Ht.out.later hb)
  replace Ho := Lib.hid (Ho.out.later hb)
  clear hb
  go_wp2_with fail
  obtain ⟨w9, hnew⟩ : ∃ W, W = w8.alloc (.cells #[.int .i64 250, .int .i64 400, .int .i64 2] 53) := ⟨_, rfl⟩
  rw [← hnew]
  have Hb : Hid (HoldsB w9 w9.heap.size (.slice (some ⟨w8.heap.size, 0, none⟩) 1 1) exB) := Lib.hid (by rw [hnew, World.size_alloc]; exact holds_lit w8 exB (by decide))
  have hb : Below w8.heap.size w8 w9 := by rw [hnew]; exact below_al _ _
  clear hnew
  replace HW := Lib.hid (below_trans HW.out hb)
  replace Hm := Lib.hid (Hm.out.later hb)
  replace Hg := Lib.hid (Hg.out.later hb)
  replace Hh := Lib.hid (Hh.out.later hb)
  replace Ht := Lib.hid (Ht.out.later hb)
  replace Ho := Lib.hid (Ho.out.later hb)
  clear hb
  go_wp2_with fail
  refine (overlay_any _ _ exM exB _ Hm.out Hb.out).mono ?_
  rw [ex_over]
  rintro e w10 ⟨vv, rfl, h1, hb⟩
  dsimp only at h1 ⊢
  replace HW := Lib.hid (below_trans HW.out hb)
  replace Hm := Lib.hid (Hm.out.later hb)
  replace Hg := Lib.hid (Hg.out.later hb)
  replace Hh := Lib.hid (Hh.out.later hb)
  replace Ht := Lib.hid (Ht.out.later hb)
  replace Ho := Lib.hid (Ho.out.later hb)
  replace Hb := Lib.hid (Hb.out.later hb)
  clear hb
  have Hv := Lib.hid h1
  clear h1
  clear Hb
  go_wp2_with fail
  refine (swap_any _ exM 2 1 _ Hm.out).mono ?_
  rw [ex_swap]
  rintro e w11 ⟨vs, rfl, h1, hb⟩
  dsimp only at h1 ⊢
  replace HW := Lib.hid (below_trans HW.out hb)
  replace Hm := Lib.hid (Hm.out.later hb)
  replace Hg := Lib.hid (Hg.out.later hb)
  replace Hh := Lib.hid (Hh.out.later hb)
  replace Ht := Lib.hid (Ht.out.later hb)
  replace Ho := Lib.hid (Ho.out.later hb)
  replace Hv := Lib.hid (Hv.out.later hb)
  clear hb
  have Hs := Lib.hid h1
  clear h1
  go_wp2_with fail
  refine (differ_any _ _ exM exG _ Hm.out Hg.out).mono ?_
  rw [ex_diff]
  rintro e w12 ⟨vd, rfl, h1, hb⟩
  dsimp only at h1 ⊢
  replace HW := Lib.hid (below_trans HW.out hb)
  replace Hm := Lib.hid (Hm.out.later hb)
  replace Hg := Lib.hid (Hg.out.later hb)
  replace Hh := Lib.hid (Hh.out.later hb)
  replace Ht := Lib.hid (Ht.out.later hb)
  replace Ho := Lib.hid (Ho.out.later hb)
  replace Hv := Lib.hid (Hv.out.later hb)
  replace Hs := Lib.hid (Hs.out.later hb)
  clear hb
  have Hd := Lib.hid h1
  clear h1
  go_wp2_with fail
  refine (give_any _ exM 5 5 1 _ Hm.out).mono ?_
  rw [ex_give3]
  rintro e w13 ⟨vq, rfl, h1, hb⟩
  dsimp only at h1 ⊢
  clear h1
  replace HW := Lib.hid (below_trans HW.out hb)
  replace Hm := Lib.hid (Hm.out.later hb)
  replace Hg := Lib.hid (Hg.out.later hb)
  replace Hh := Lib.hid (Hh.out.later hb)
  replace Ht := Lib.hid (Ht.out.later hb)
  replace Ho := Lib.hid (Ho.out.later hb)
  replace Hv := Lib.hid (Hv.out.later hb)
  replace Hs := Lib.hid (Hs.out.later hb)
  replace Hd := Lib.hid (Hd.out.later hb)
  clear hb
  go_wp2_with fail
  refine (free_any _ exM 0 _ Hm.out).mono ?_
  rintro e w14 ⟨rfl, hb⟩
  rw [ex_free0]
  dsimp only
  replace HW := Lib.hid (below_trans HW.out hb)
  replace Hm := Lib.hid (Hm.out.later hb)
  replace Hg := Lib.hid (Hg.out.later hb)
  replace Hh := Lib.hid (Hh.out.later hb)
  replace Ht := Lib.hid (Ht.out.later hb)
  replace Ho := Lib.hid (Ho.out.later hb)
  replace Hv := Lib.hid (Hv.out.later hb)
  replace Hs := Lib.hid (Hs.out.later hb)
  replace Hd := Lib.hid (Hd.out.later hb)
  clear hb
  go_wp2_with fail
  refine (free_any _ exM 100 _ Hm.out).mono ?_
  rintro e w15 ⟨rfl, hb⟩
  rw [ex_free1]
  dsimp only
  replace HW := Lib.hid (below_trans HW.out hb)
  replace Hm := Lib.hid (Hm.out.later hb)
  replace Hg := Lib.hid (Hg.out.later hb)
  replace Hh := Lib.hid (Hh.out.later hb)
  replace Ht := Lib.hid (Ht.out.later hb)
  replace Ho := Lib.hid (Ho.out.later hb)
  replace Hv := Lib.hid (Hv.out.later hb)
  replace Hs := Lib.hid (Hs.out.later hb)
  replace Hd := Lib.hid (Hd.out.later hb)
  clear hb
  go_wp2_with fail
  refine (free_any _ exM 99999999 _ Hm.out).mono ?_
  rintro e w16 ⟨rfl, hb⟩
  rw [ex_free2]
  dsimp only
  replace HW := Lib.hid (below_trans HW.out hb)
  replace Hm := Lib.hid (Hm.out.later hb)
  replace Hg := Lib.hid (Hg.out.later hb)
  replace Hh := Lib.hid (Hh.out.later hb)
  replace Ht := Lib.hid (Ht.out.later hb)
  replace Ho := Lib.hid (Ho.out.later hb)
  replace Hv := Lib.hid (Hv.out.later hb)
  replace Hs := Lib.hid (Hs.out.later hb)
  replace Hd := Lib.hid (Hd.out.later hb)
  clear hb
  go_wp2_with fail
  refine (finds_any _ exM 99 (-1) _ Hm.out (by rw [ex_find]; decide)).mono ?_
  rintro e w17 ⟨rfl, hb⟩
  replace HW := Lib.hid (below_trans HW.out hb)
  replace Hm := Lib.hid (Hm.out.later hb)
  replace Hg := Lib.hid (Hg.out.later hb)
  replace Hh := Lib.hid (Hh.out.later hb)
  replace Ht := Lib.hid (Ht.out.later hb)
  replace Ho := Lib.hid (Ho.out.later hb)
  replace Hv := Lib.hid (Hv.out.later hb)
  replace Hs := Lib.hid (Hs.out.later hb)
  replace Hd := Lib.hid (Hd.out.later hb)
  clear hb
  go_wp2_with fail
  refine (finds_any _ exM 100 1 _ Hm.out (by rw [ex_find]; decide)).mono ?_
  rintro e w18 ⟨rfl, hb⟩
  replace HW := Lib.hid (below_trans HW.out hb)
  replace Hm := Lib.hid (Hm.out.later hb)
  replace Hg := Lib.hid (Hg.out.later hb)
  replace Hh := Lib.hid (Hh.out.later hb)
  replace Ht := Lib.hid (Ht.out.later hb)
  replace Ho := Lib.hid (Ho.out.later hb)
  replace Hv := Lib.hid (Hv.out.later hb)
  replace Hs := Lib.hid (Hs.out.later hb)
  replace Hd := Lib.hid (Hd.out.later hb)
  clear hb
  go_wp2_with fail
  refine (finds_any _ exM 199 1 _ Hm.out (by rw [ex_find]; decide)).mono ?_
  rintro e w19 ⟨rfl, hb⟩
  replace HW := Lib.hid (below_trans HW.out hb)
  replace Hm := Lib.hid (Hm.out.later hb)
  replace Hg := Lib.hid (Hg.out.later hb)
  replace Hh := Lib.hid (Hh.out.later hb)
  replace Ht := Lib.hid (Ht.out.later hb)
  replace Ho := Lib.hid (Ho.out.later hb)
  replace Hv := Lib.hid (Hv.out.later hb)
  replace Hs := Lib.hid (Hs.out.later hb)
  replace Hd := Lib.hid (Hd.out.later hb)
  clear hb
  go_wp2_with fail
  refine (finds_any _ exM 200 2 _ Hm.out (by rw [ex_find]; decide)).mono ?_
  rintro e w20 ⟨rfl, hb⟩
  replace HW := Lib.hid (below_trans HW.out hb)
  replace Hm := Lib.hid (Hm.out.later hb)
  replace Hg := Lib.hid (Hg.out.later hb)
  replace Hh := Lib.hid (Hh.out.later hb)
  replace Ht := Lib.hid (Ht.out.later hb)
  replace Ho := Lib.hid (Ho.out.later hb)
  replace Hv := Lib.hid (Hv.out.later hb)
  replace Hs := Lib.hid (Hs.out.later hb)
  replace Hd := Lib.hid (Hd.out.later hb)
  clear hb
  go_wp2_with fail
  refine (finds_any _ exM 300 (-1) _ Hm.out (by rw [ex_find]; decide)).mono ?_
  rintro e w21 ⟨rfl, hb⟩
  replace HW := Lib.hid (below_trans HW.out hb)
  replace Hm := Lib.hid (Hm.out.later hb)
  replace Hg := Lib.hid (Hg.out.later hb)
  replace Hh := Lib.hid (Hh.out.later hb)
  replace Ht := Lib.hid (Ht.out.later hb)
  replace Ho := Lib.hid (Ho.out.later hb)
  replace Hv := Lib.hid (Hv.out.later hb)
  replace Hs := Lib.hid (Hs.out.later hb)
  replace Hd := Lib.hid (Hd.out.later hb)
  clear hb
  go_wp2_with fail
  refine (mk1_any 100 150 (1) _).mono ?_
  rintro e w22 ⟨rfl, hb⟩
  replace HW := Lib.hid (below_trans HW.out hb)
  replace Hm := Lib.hid (Hm.out.later hb)
  replace Hg := Lib.hid (Hg.out.later hb)
  replace Hh := Lib.hid (Hh.out.later hb)
  replace Ht := Lib.hid (Ht.out.later hb)
  replace Ho := Lib.hid (Ho.out.later hb)
  replace Hv := Lib.hid (Hv.out.later hb)
  replace Hs := Lib.hid (Hs.out.later hb)
  replace Hd := Lib.hid (Hd.out.later hb)
  clear hb
  go_wp2_with fail
  refine (mk1_any 150 250 (3) _).mono ?_
  rintro e w23 ⟨rfl, hb⟩
  replace HW := Lib.hid (below_trans HW.out hb)
  replace Hm := Lib.hid (Hm.out.later hb)
  replace Hg := Lib.hid (Hg.out.later hb)
  replace Hh := Lib.hid (Hh.out.later hb)
  replace Ht := Lib.hid (Ht.out.later hb)
  replace Ho := Lib.hid (Ho.out.later hb)
  replace Hv := Lib.hid (Hv.out.later hb)
  replace Hs := Lib.hid (Hs.out.later hb)
  replace Hd := Lib.hid (Hd.out.later hb)
  clear hb
  go_wp2_with fail
  refine (mk1_any 250 300 (2) _).mono ?_
  rintro e w24 ⟨rfl, hb⟩
  replace HW := Lib.hid (below_trans HW.out hb)
  replace Hm := Lib.hid (Hm.out.later hb)
  replace Hg := Lib.hid (Hg.out.later hb)
  replace Hh := Lib.hid (Hh.out.later hb)
  replace Ht := Lib.hid (Ht.out.later hb)
  replace Ho := Lib.hid (Ho.out.later hb)
  replace Hv := Lib.hid (Hv.out.later hb)
  replace Hs := Lib.hid (Hs.out.later hb)
  replace Hd := Lib.hid (Hd.out.later hb)
  clear hb
  go_wp2_with fail
  obtain ⟨w25, hnew⟩ : ∃ W, W = w24.alloc (.cells #[.int .i64 100, .int .i64 150, .int .i64 1, .int .i64 150, .int .i64 250, .int .i64 3, .int .i64 250, .int .i64 300, .int .i64 2] 53) := ⟨_, rfl⟩
  rw [← hnew]
  have Hl : Hid (HoldsB w25 w25.heap.size (.slice (some ⟨w24.heap.size, 0, none⟩) 3 3) exG) := Lib.hid (by rw [hnew, World.size_alloc]; exact holds_lit w24 exG (by decide))
  have hb : Below w24.heap.size w24 w25 := by rw [hnew]; exact below_al _ _
  clear hnew
  replace HW := Lib.hid (below_trans HW.out hb)
  replace Hm := Lib.hid (Hm.out.later hb)
  replace Hg := Lib.hid (Hg.out.later hb)
  replace Hh := Lib.hid (Hh.out.later hb)
  replace Ht := Lib.hid (Ht.out.later hb)
  replace Ho := Lib.hid (Ho.out.later hb)
  replace Hv := Lib.hid (Hv.out.later hb)
  replace Hs := Lib.hid (Hs.out.later hb)
  replace Hd := Lib.hid (Hd.out.later hb)
  clear hb
  go_wp2_with fail
  refine (same_any _ _ exG exG _ Hg.out Hl.out).mono ?_
  rintro e w26 ⟨rfl, hb⟩
  rw [decide_eq_true (rfl : exG = exG)]
  replace HW := Lib.hid (below_trans HW.out hb)
  replace Hm := Lib.hid (Hm.out.later hb)
  replace Hg := Lib.hid (Hg.out.later hb)
  replace Hh := Lib.hid (Hh.out.later hb)
  replace Ht := Lib.hid (Ht.out.later hb)
  replace Ho := Lib.hid (Ho.out.later hb)
  replace Hv := Lib.hid (Hv.out.later hb)
  replace Hs := Lib.hid (Hs.out.later hb)
  replace Hd := Lib.hid (Hd.out.later hb)
  replace Hl := Lib.hid (Hl.out.later hb)
  clear hb
  clear Hl
  clear Hg
  go_wp2_with fail
  refine (mk1_any 100 300 (1) _).mono ?_
  rintro e w27 ⟨rfl, hb⟩
  replace HW := Lib.hid (below_trans HW.out hb)
  replace Hm := Lib.hid (Hm.out.later hb)
  replace Hh := Lib.hid (Hh.out.later hb)
  replace Ht := Lib.hid (Ht.out.later hb)
  replace Ho := Lib.hid (Ho.out.later hb)
  replace Hv := Lib.hid (Hv.out.later hb)
  replace Hs := Lib.hid (Hs.out.later hb)
  replace Hd := Lib.hid (Hd.out.later hb)
  clear hb
  go_wp2_with fail
  obtain ⟨w28, hnew⟩ : ∃ W, W = w27.alloc (.cells #[.int .i64 100, .int .i64 300, .int .i64 1] 53) := ⟨_, rfl⟩
  rw [← hnew]
  have Hl : Hid (HoldsB w28 w28.heap.size (.slice (some ⟨w27.heap.size, 0, none⟩) 1 1) exH) := Lib.hid (by rw [hnew, World.size_alloc]; exact holds_lit w27 exH (by decide))
  have hb : Below w27.heap.size w27 w28 := by rw [hnew]; exact below_al _ _
  clear hnew
  replace HW := Lib.hid (below_trans HW.out hb)
  replace Hm := Lib.hid (Hm.out.later hb)
  replace Hh := Lib.hid (Hh.out.later hb)
  replace Ht := Lib.hid (Ht.out.later hb)
  replace Ho := Lib.hid (Ho.out.later hb)
  replace Hv := Lib.hid (Hv.out.later hb)
  replace Hs := Lib.hid (Hs.out.later hb)
  replace Hd := Lib.hid (Hd.out.later hb)
  clear hb
  go_wp2_with fail
  refine (same_any _ _ exH exH _ Hh.out Hl.out).mono ?_
  rintro e w29 ⟨rfl, hb⟩
  rw [decide_eq_true (rfl : exH = exH)]
  replace HW := Lib.hid (below_trans HW.out hb)
  replace Hm := Lib.hid (Hm.out.later hb)
  replace Hh := Lib.hid (Hh.out.later hb)
  replace Ht := Lib.hid (Ht.out.later hb)
  replace Ho := Lib.hid (Ho.out.later hb)
  replace Hv := Lib.hid (Hv.out.later hb)
  replace Hs := Lib.hid (Hs.out.later hb)
  replace Hd := Lib.hid (Hd.out.later hb)
  replace Hl := Lib.hid (Hl.out.later hb)
  clear hb
  clear Hl
  go_wp2_with fail
  refine (mk1_any 101 200 (1) _).mono ?_
  rintro e w30 ⟨rfl, hb⟩
  replace HW := Lib.hid (below_trans HW.out hb)
  replace Hm := Lib.hid (Hm.out.later hb)
  replace Hh := Lib.hid (Hh.out.later hb)
  replace Ht := Lib.hid (Ht.out.later hb)
  replace Ho := Lib.hid (Ho.out.later hb)
  replace Hv := Lib.hid (Hv.out.later hb)
  replace Hs := Lib.hid (Hs.out.later hb)
  replace Hd := Lib.hid (Hd.out.later hb)
  clear hb
  go_wp2_with fail
  refine (mk1_any 200 300 (2) _).mono ?_
  rintro e w31 ⟨rfl, hb⟩
  replace HW := Lib.hid (below_trans HW.out hb)
  replace Hm := Lib.hid (Hm.out.later hb)
  replace Hh := Lib.hid (Hh.out.later hb)
  replace Ht := Lib.hid (Ht.out.later hb)
  replace Ho := Lib.hid (Ho.out.later hb)
  replace Hv := Lib.hid (Hv.out.later hb)
  replace Hs := Lib.hid (Hs.out.later hb)
  replace Hd := Lib.hid (Hd.out.later hb)
  clear hb
  go_wp2_with fail
  obtain ⟨w32, hnew⟩ : ∃ W, W = w31.alloc (.cells #[.int .i64 101, .int .i64 200, .int .i64 1, .int .i64 200, .int .i64 300, .int .i64 2] 53) := ⟨_, rfl⟩
  rw [← hnew]
  have Hl : Hid (HoldsB w32 w32.heap.size (.slice (some ⟨w31.heap.size, 0, none⟩) 2 2) exT) := Lib.hid (by rw [hnew, World.size_alloc]; exact holds_lit w31 exT (by decide))
  have hb : Below w31.heap.size w31 w32 := by rw [hnew]; exact below_al _ _
  clear hnew
  replace HW := Lib.hid (below_trans HW.out hb)
  replace Hm := Lib.hid (Hm.out.later hb)
  replace Hh := Lib.hid (Hh.out.later hb)
  replace Ht := Lib.hid (Ht.out.later hb)
  replace Ho := Lib.hid (Ho.out.later hb)
  replace Hv := Lib.hid (Hv.out.later hb)
  replace Hs := Lib.hid (Hs.out.later hb)
  replace Hd := Lib.hid (Hd.out.later hb)
  clear hb
  go_wp2_with fail
  refine (same_any _ _ exT exT _ Ht.out Hl.out).mono ?_
  rintro e w33 ⟨rfl, hb⟩
  rw [decide_eq_true (rfl : exT = exT)]
  replace HW := Lib.hid (below_trans HW.out hb)
  replace Hm := Lib.hid (Hm.out.later hb)
  replace Hh := Lib.hid (Hh.out.later hb)
  replace Ht := Lib.hid (Ht.out.later hb)
  replace Ho := Lib.hid (Ho.out.later hb)
  replace Hv := Lib.hid (Hv.out.later hb)
  replace Hs := Lib.hid (Hs.out.later hb)
  replace Hd := Lib.hid (Hd.out.later hb)
  replace Hl := Lib.hid (Hl.out.later hb)
  clear hb
  clear Hl
  clear Ht
  go_wp2_with fail
  refine (mk1_any 100 101 (1) _).mono ?_
  rintro e w34 ⟨rfl, hb⟩
  replace HW := Lib.hid (below_trans HW.out hb)
  replace Hm := Lib.hid (Hm.out.later hb)
  replace Hh := Lib.hid (Hh.out.later hb)
  replace Ho := Lib.hid (Ho.out.later hb)
  replace Hv := Lib.hid (Hv.out.later hb)
  replace Hs := Lib.hid (Hs.out.later hb)
  replace Hd := Lib.hid (Hd.out.later hb)
  clear hb
  go_wp2_with fail
  obtain ⟨w35, hnew⟩ : ∃ W, W = w34.alloc (.cells #[.int .i64 100, .int .i64 101, .int .i64 1] 53) := ⟨_, rfl⟩
  rw [← hnew]
  have Hl : Hid (HoldsB w35 w35.heap.size (.slice (some ⟨w34.heap.size, 0, none⟩) 1 1) exO) := Lib.hid (by rw [hnew, World.size_alloc]; exact holds_lit w34 exO (by decide))
  have hb : Below w34.heap.size w34 w35 := by rw [hnew]; exact below_al _ _
  clear hnew
  replace HW := Lib.hid (below_trans HW.out hb)
  replace Hm := Lib.hid (Hm.out.later hb)
  replace Hh := Lib.hid (Hh.out.later hb)
  replace Ho := Lib.hid (Ho.out.later hb)
  replace Hv := Lib.hid (Hv.out.later hb)
  replace Hs := Lib.hid (Hs.out.later hb)
  replace Hd := Lib.hid (Hd.out.later hb)
  clear hb
  go_wp2_with fail
  refine (same_any _ _ exO exO _ Ho.out Hl.out).mono ?_
  rintro e w36 ⟨rfl, hb⟩
  rw [decide_eq_true (rfl : exO = exO)]
  replace HW := Lib.hid (below_trans HW.out hb)
  replace Hm := Lib.hid (Hm.out.later hb)
  replace Hh := Lib.hid (Hh.out.later hb)
  replace Ho := Lib.hid (Ho.out.later hb)
  replace Hv := Lib.hid (Hv.out.later hb)
  replace Hs := Lib.hid (Hs.out.later hb)
  replace Hd := Lib.hid (Hd.out.later hb)
  replace Hl := Lib.hid (Hl.out.later hb)
  clear hb
  clear Hl
  clear Ho
  go_wp2_with fail
  refine (mk1_any 100 200 (1) _).mono ?_
  rintro e w37 ⟨rfl, hb⟩
  replace HW := Lib.hid (below_trans HW.out hb)
  replace Hm := Lib.hid (Hm.out.later hb)
  replace Hh := Lib.hid (Hh.out.later hb)
  replace Hv := Lib.hid (Hv.out.later hb)
  replace Hs := Lib.hid (Hs.out.later hb)
  replace Hd := Lib.hid (Hd.out.later hb)
  clear hb
  go_wp2_with fail
  refine (mk1_any 200 400 (2) _).mono ?_
  rintro e w38 ⟨rfl, hb⟩
  replace HW := Lib.hid (below_trans HW.out hb)
  replace Hm := Lib.hid (Hm.out.later hb)
  replace Hh := Lib.hid (Hh.out.later hb)
  replace Hv := Lib.hid (Hv.out.later hb)
  replace Hs := Lib.hid (Hs.out.later hb)
  replace Hd := Lib.hid (Hd.out.later hb)
  clear hb
  go_wp2_with fail
  obtain ⟨w39, hnew⟩ : ∃ W, W = w38.alloc (.cells #[.int .i64 100, .int .i64 200, .int .i64 1, .int .i64 200, .int .i64 400, .int .i64 2] 53) := ⟨_, rfl⟩
  rw [← hnew]
  have Hl : Hid (HoldsB w39 w39.heap.size (.slice (some ⟨w38.heap.size, 0, none⟩) 2 2) exV) := Lib.hid (by rw [hnew, World.size_alloc]; exact holds_lit w38 exV (by decide))
  have hb : Below w38.heap.size w38 w39 := by rw [hnew]; exact below_al _ _
  clear hnew
  replace HW := Lib.hid (below_trans HW.out hb)
  replace Hm := Lib.hid (Hm.out.later hb)
  replace Hh := Lib.hid (Hh.out.later hb)
  replace Hv := Lib.hid (Hv.out.later hb)
  replace Hs := Lib.hid (Hs.out.later hb)
  replace Hd := Lib.hid (Hd.out.later hb)
  clear hb
  go_wp2_with fail
  refine (same_any _ _ exV exV _ Hv.out Hl.out).mono ?_
  rintro e w40 ⟨rfl, hb⟩
  rw [decide_eq_true (rfl : exV = exV)]
  replace HW := Lib.hid (below_trans HW.out hb)
  replace Hm := Lib.hid (Hm.out.later hb)
  replace Hh := Lib.hid (Hh.out.later hb)
  replace Hv := Lib.hid (Hv.out.later hb)
  replace Hs := Lib.hid (Hs.out.later hb)
  replace Hd := Lib.hid (Hd.out.later hb)
  replace Hl := Lib.hid (Hl.out.later hb)
  clear hb
  clear Hl
  clear Hv
  go_wp2_with fail
  refine (same_any _ _ exH exH _ Hs.out Hh.out).mono ?_
  rintro e w41 ⟨rfl, hb⟩
  rw [decide_eq_true (rfl : exH = exH)]
  replace HW := Lib.hid (below_trans HW.out hb)
  replace Hm := Lib.hid (Hm.out.later hb)
  replace Hh := Lib.hid (Hh.out.later hb)
  replace Hs := Lib.hid (Hs.out.later hb)
  replace Hd := Lib.hid (Hd.out.later hb)
  clear hb
  clear Hs Hh
  go_wp2_with fail
  obtain ⟨w42, hnew⟩ : ∃ W, W = w41.alloc (.cells #[.int .i64 150, .int .i64 250] 26) := ⟨_, rfl⟩
  rw [← hnew]
  have Hl : Hid (HoldsR w42 w42.heap.size (.slice (some ⟨w41.heap.size, 0, none⟩) 1 1) exD) := Lib.hid (by rw [hnew, World.size_alloc]; exact holdsR_lit w41 exD (by decide))
  have hb : Below w41.heap.size w41 w42 := by rw [hnew]; exact below_al _ _
  clear hnew
  replace HW := Lib.hid (below_trans HW.out hb)
  replace Hm := Lib.hid (Hm.out.later hb)
  replace Hd := Lib.hid (Hd.out.later hb)
  clear hb
  go_wp2_with fail
  refine (sameR_any _ _ exD exD _ Hd.out Hl.out).mono ?_
  rintro e w43 ⟨rfl, hb⟩
  rw [decide_eq_true (rfl : exD.map rngOf = exD.map rngOf)]
  replace HW := Lib.hid (below_trans HW.out hb)
  replace Hm := Lib.hid (Hm.out.later hb)
  clear hb
  clear Hd Hl
  go_wp2_with fail
  refine (countH_any _ exM 1 _ Hm.out).mono ?_
  rintro e w44 ⟨rfl, hb⟩
  rw [ex_count]
  replace HW := Lib.hid (below_trans HW.out hb)
  replace Hm := Lib.hid (Hm.out.later hb)
  clear hb
  go_wp2_with fail
  refine (validH_any _ exM _ Hm.out).mono ?_
  rintro e w45 ⟨rfl, hb⟩
  rw [exM_valid]
  replace HW := Lib.hid (below_trans HW.out hb)
  replace Hm := Lib.hid (Hm.out.later hb)
  clear hb
  clear Hm
  go_wp2_with fail
  refine (mk1_any 100 200 (1) _).mono ?_
  rintro e w46 ⟨rfl, hb⟩
  replace HW := Lib.hid (below_trans HW.out hb)
  clear hb
  go_wp2_with fail
  refine (mk1_any 200 300 (1) _).mono ?_
  rintro e w47 ⟨rfl, hb⟩
  replace HW := Lib.hid (below_trans HW.out hb)
  clear hb
  go_wp2_with fail
  obtain ⟨w48, hnew⟩ : ∃ W, W = w47.alloc (.cells #[.int .i64 100, .int .i64 200, .int .i64 1, .int .i64 200, .int .i64 300, .int .i64 1] 53) := ⟨_, rfl⟩
  rw [← hnew]
  have Hl : Hid (HoldsB w48 w48.heap.size (.slice (some ⟨w47.heap.size, 0, none⟩) 2 2) [⟨100, 200, 1⟩, ⟨200, 300, 1⟩]) := Lib.hid (by rw [hnew, World.size_alloc]; exact holds_lit w47 [⟨100, 200, 1⟩, ⟨200, 300, 1⟩] (by decide))
  have hb : Below w47.heap.size w47 w48 := by rw [hnew]; exact below_al _ _
  clear hnew
  replace HW := Lib.hid (below_trans HW.out hb)
  clear hb
  go_wp2_with fail
  refine (validH_any _ [⟨100, 200, 1⟩, ⟨200, 300, 1⟩] _ Hl.out).mono ?_
  rintro e w49 ⟨rfl, hb⟩
  rw [ex_bad]
  replace HW := Lib.hid (below_trans HW.out hb)
  clear hb
  clear Hl
  go_wp2_with fail
  go_ret
  exact ⟨rfl, HW.out⟩
end Go.Proofs.Ytmgippddljmfjaa
