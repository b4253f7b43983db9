/-
  dialtoneref13: Give, Take, Only, Overlay, Swap.
-/
import Derived.Test.YtmgippddljmfjaaWalk13
namespace Go.Proofs.Ytmgippddljmfjaa
open Go Go.RowKit Go.Dial Go.Dial.Blk

theorem rvalidH_any (v : Value) (bs : List B3) (w : World) (h : HoldsB w w.heap.size v bs) : Calls Try.prog 41 #[v] w fun e w' => e = .returned (.bool (validB bs)) ∧ Below w.heap.size w w' := by
  obtain ⟨A, c, rfl, h1, h2, h3⟩ := h
  exact rvalid_any A c bs w (Nat.le_trans h1 h2) h3
theorem rcomb_any (a b : List B3) (va vb : Value) (way u v : Int) (g : Int → Int → Int) (w : World) (hva : HoldsB w w.heap.size va a) (hvb : HoldsB w w.heap.size vb b) (ha : validB a = true) (hb : validB b = true) (hg : Good way u v g) :
    Calls Try.prog 60 #[va, vb, .int .i64 way, .int .i64 u, .int .i64 v] w (Res w (combR g a b)) := by
  obtain ⟨A0, c0, rfl, h0, h1, h2⟩ := hva
  obtain ⟨A1, c1, rfl, h3, h4, h5⟩ := hvb
  have l0 := (validB_iff.1 ha).1
  have l1 := (validB_iff.1 hb).1
  exact rcombine_any A0 A1 c0 c1 a b way u v g w (by omega) (by omega) h2 h5 (validB_iff.1 ha).2 (validB_iff.1 hb).2 hg
theorem valid_one {f t c : Int} (h : rngB f t = true) (hc : carB c = true) : validB [⟨f, t, c⟩] = true := by
  rw [rngB_iff] at h; rw [carB_iff] at hc
  exact validB_iff.2 ⟨by simp, by simp [Canon, Asc]; omega⟩
theorem valid_nil : validB [] = true := rfl
theorem pieces_nil (a : List B3) (n : Int) : ∀ p ∈ pieces a [] n, p.2.2.2 = -1 := by
  obtain ⟨d, hd⟩ : ∃ d, d = (100000000 - n).toNat := ⟨_, rfl⟩
  induction d using Nat.strongRecOn generalizing a n with
  | _ d ih =>
    by_cases h : n < 100000000
    · rw [pieces_cons a [] h]
      have h1 := at_gt a h
      have h2 := at_gt [] h
      intro p hp
      rcases List.mem_cons.1 hp with rfl | hp
      · rfl
      · exact ih ((100000000 - min (at_ a n).2.2 (at_ [] n).2.2).toNat) (by omega) (at_ a n).1 _ rfl p hp
    · rw [pieces_end a [] h]; simp
theorem foldS_congr {g g' : Int → Int → Int} {ps : List (Int × Int × Int × Int)} (h : ∀ p ∈ ps, g p.2.2.1 p.2.2.2 = g' p.2.2.1 p.2.2.2) : foldS g ps = foldS g' ps := by
  unfold foldS
  have : ∀ o : List B3, ps.foldl (fun o p => Blk.step o p.1 p.2.1 (g p.2.2.1 p.2.2.2)) o = ps.foldl (fun o p => Blk.step o p.1 p.2.1 (g' p.2.2.1 p.2.2.2)) o := by
    induction ps with
    | nil => intro o; rfl
    | cons p ps ih =>
      intro o
      rw [List.foldl_cons, List.foldl_cons, h p (by simp)]
      exact ih (fun q hq => h q (by simp [hq])) _
  exact this []
def rswapG (u v x y : Int) : Int := c3 u v (if 0 ≤ y then y else x)
theorem good_swap {u v : Int} (hv : carB v = true) : Good 0 u v (rswapG u v) := ⟨.inl rfl, fun x y h1 h2 h3 h4 => by
  rw [carB_iff] at hv
  refine ⟨by simp [rG, rswapG, c2, c1], ?_⟩
  unfold rswapG c3
  split <;> split <;> omega⟩
theorem comb_swap {u v : Int} (hu : carB u = true) (l : List B3) : combR (rswapG u v) l [] = combR (swapG u v) l [] := by
  rw [carB_iff] at hu
  have e : foldS (rswapG u v) (pieces l [] 0) = foldS (swapG u v) (pieces l [] 0) := foldS_congr fun p hp => by
    rw [pieces_nil l 0 p hp]
    unfold rswapG swapG c3
    simp only [show ¬ (0 : Int) ≤ -1 by omega, if_false]
    by_cases h : p.2.2.1 = u
    · rw [if_pos ⟨by omega, h⟩, if_pos h]
    · rw [if_neg (fun hh => h hh.2), if_neg h]
  rw [combR, combR, e]
theorem one_any (f t c : Int) (w : World) : Calls Try.prog 61 #[.agg #[.int .i64 f, .int .i64 t], .int .i64 c] w fun e w' => (∃ v, e = .returned v ∧ HoldsB w' w'.heap.size v [⟨f, t, c⟩]) ∧ Below w.heap.size w w' := by
  go_enter Try.func61, Try.ntmps61
  go_wp2_with fail
  go_ret
  refine ⟨⟨_, rfl, _, 1, rfl, Nat.le_refl _, by unfold maxLen; omega, rfl, ?_⟩, ((Below.refl _ w).alloc (Nat.le_refl _) _).alloc (by simp) _⟩
  intro j u hu
  refine ⟨_, rfl, by simp, ?_⟩
  have := World.news_of_block (cs := #[.int .i64 f, .int .i64 t, .int .i64 c]) (new_heap (w.alloc (.cells #[.int .i64 f, .int .i64 t] 26)) (.cells #[.int .i64 f, .int .i64 t, .int .i64 c] 53)) j u (by simpa [bcs, bcells] using hu)
  simpa using this
set_option maxHeartbeats 1600000 in
theorem rgive_any (v : Value) (bs : List B3) (f t c : Int) (w : World) (hv : HoldsB w w.heap.size v bs) :
    Calls Try.prog 36 #[v, .agg #[.int .i64 f, .int .i64 t], .int .i64 c] w (Res w (giveV bs f t c)) := by
  by_cases t0 : validB bs = true
  · skip
    by_cases t1 : rngB f t = true
    · skip
      by_cases t2 : carB c = true
      · skip
        have HV := Lib.hid (show giveV bs f t c = _ from if_pos ⟨t0, t1, t2⟩)
        go_enter Try.func36, Try.ntmps36
        go_wp2_with (first | (go_at_call 41; refine (rvalidH_any v bs _ (hv.later (below_al _ _))).mono ?_; rintro e w1 ⟨rfl, HB⟩; obtain ⟨d0, d1⟩ := box2 HB; rw [t0]) | (go_at_call 58; refine (rRange_any _ _ _).mono ?_; rintro e w2 ⟨rfl, H1⟩; replace H1 := below_trans HB H1; obtain ⟨e0, e1⟩ := box2 H1; rw [t1]) | (go_at_call 59; refine (rcarrier_any _ _).mono ?_; rintro e w3 ⟨rfl, H2⟩; replace H2 := below_trans H1 H2; obtain ⟨f0, f1⟩ := box2 H2; rw [t2]) | (go_at_call 61; refine (one_any _ _ _ _).mono ?_; rintro e w4 ⟨⟨v1, rfl, h1⟩, H3⟩; have HC := below_trans (below_trans (below_al _ _) H2) H3) | (go_at_call 60; refine (rcomb_any bs [⟨f, t, c⟩] v v1 0 (-1) (-1) overG _ (hv.later HC) h1 t0 (valid_one t1 t2) good_over).mono ?_; rintro e w5 ⟨v2, rfl, h2, H4⟩))
        go_ret2
        exact ⟨v2, by rw [HV.out]; rfl, by rw [HV.out]; exact h2, below_trans HC H4⟩
      · have u2 : carB c = false := by simpa using t2
        have HV := Lib.hid (show giveV bs f t c = ([], 130) from if_neg (fun h => t2 h.2.2))
        clear t2
        go_enter Try.func36, Try.ntmps36
        go_wp2_with (first | (go_at_call 41; refine (rvalidH_any v bs _ (hv.later (below_al _ _))).mono ?_; rintro e w1 ⟨rfl, HB⟩; obtain ⟨d0, d1⟩ := box2 HB; rw [t0]) | (go_at_call 58; refine (rRange_any _ _ _).mono ?_; rintro e w2 ⟨rfl, H1⟩; replace H1 := below_trans HB H1; obtain ⟨e0, e1⟩ := box2 H1; rw [t1]) | (go_at_call 59; refine (rcarrier_any _ _).mono ?_; rintro e w3 ⟨rfl, H2⟩; replace H2 := below_trans H1 H2; obtain ⟨f0, f1⟩ := box2 H2; rw [u2]))
        go_ret2
        exact Res.none HV.out (below_trans (below_al _ _) H2)
    · have u1 : rngB f t = false := by simpa using t1
      have HV := Lib.hid (show giveV bs f t c = ([], 130) from if_neg (fun h => t1 h.2.1))
      clear t1
      go_enter Try.func36, Try.ntmps36
      go_wp2_with (first | (go_at_call 41; refine (rvalidH_any v bs _ (hv.later (below_al _ _))).mono ?_; rintro e w1 ⟨rfl, HB⟩; obtain ⟨d0, d1⟩ := box2 HB; rw [t0]) | (go_at_call 58; refine (rRange_any _ _ _).mono ?_; rintro e w2 ⟨rfl, H1⟩; replace H1 := below_trans HB H1; obtain ⟨e0, e1⟩ := box2 H1; rw [u1]))
      go_ret2
      exact Res.none HV.out (below_trans (below_al _ _) H1)
  · have u0 : validB bs = false := by simpa using t0
    have HV := Lib.hid (show giveV bs f t c = ([], 130) from if_neg (fun h => t0 h.1))
    clear t0
    go_enter Try.func36, Try.ntmps36
    go_wp2_with (first | (go_at_call 41; refine (rvalidH_any v bs _ (hv.later (below_al _ _))).mono ?_; rintro e w1 ⟨rfl, HB⟩; obtain ⟨d0, d1⟩ := box2 HB; rw [u0]))
    go_ret2
    exact Res.none HV.out (below_trans (below_al _ _) HB)
set_option maxHeartbeats 1600000 in
theorem rtake_any (v : Value) (bs : List B3) (f t : Int) (w : World) (hv : HoldsB w w.heap.size v bs) :
    Calls Try.prog 37 #[v, .agg #[.int .i64 f, .int .i64 t]] w (Res w (takeV bs f t)) := by
  by_cases t0 : validB bs = true
  · skip
    by_cases t1 : rngB f t = true
    · skip
      have HV := Lib.hid (show takeV bs f t = _ from if_pos ⟨t0, t1⟩)
      go_enter Try.func37, Try.ntmps37
      go_wp2_with (first | (go_at_call 41; refine (rvalidH_any v bs _ (hv.later (below_al _ _))).mono ?_; rintro e w1 ⟨rfl, HB⟩; obtain ⟨d0, d1⟩ := box2 HB; rw [t0]) | (go_at_call 58; refine (rRange_any _ _ _).mono ?_; rintro e w2 ⟨rfl, H1⟩; replace H1 := below_trans HB H1; obtain ⟨e0, e1⟩ := box2 H1; rw [t1]) | (go_at_call 61; refine (one_any _ _ _ _).mono ?_; rintro e w4 ⟨⟨v1, rfl, h1⟩, H3⟩; have HC := below_trans (below_trans (below_al _ _) H1) H3) | (go_at_call 60; refine (rcomb_any bs [⟨f, t, 0⟩] v v1 1 (-1) (-1) takeG _ (hv.later HC) h1 t0 (valid_one t1 (by decide)) good_take).mono ?_; rintro e w5 ⟨v2, rfl, h2, H4⟩))
      go_ret2
      exact ⟨v2, by rw [HV.out]; rfl, by rw [HV.out]; exact h2, below_trans HC H4⟩
    · have u1 : rngB f t = false := by simpa using t1
      have HV := Lib.hid (show takeV bs f t = ([], 130) from if_neg (fun h => t1 h.2))
      clear t1
      go_enter Try.func37, Try.ntmps37
      go_wp2_with (first | (go_at_call 41; refine (rvalidH_any v bs _ (hv.later (below_al _ _))).mono ?_; rintro e w1 ⟨rfl, HB⟩; obtain ⟨d0, d1⟩ := box2 HB; rw [t0]) | (go_at_call 58; refine (rRange_any _ _ _).mono ?_; rintro e w2 ⟨rfl, H1⟩; replace H1 := below_trans HB H1; obtain ⟨e0, e1⟩ := box2 H1; rw [u1]))
      go_ret2
      exact Res.none HV.out (below_trans (below_al _ _) H1)
  · have u0 : validB bs = false := by simpa using t0
    have HV := Lib.hid (show takeV bs f t = ([], 130) from if_neg (fun h => t0 h.1))
    clear t0
    go_enter Try.func37, Try.ntmps37
    go_wp2_with (first | (go_at_call 41; refine (rvalidH_any v bs _ (hv.later (below_al _ _))).mono ?_; rintro e w1 ⟨rfl, HB⟩; obtain ⟨d0, d1⟩ := box2 HB; rw [u0]))
    go_ret2
    exact Res.none HV.out (below_trans (below_al _ _) HB)
set_option maxHeartbeats 1600000 in
theorem ronly_any (v : Value) (bs : List B3) (f t : Int) (w : World) (hv : HoldsB w w.heap.size v bs) :
    Calls Try.prog 40 #[v, .agg #[.int .i64 f, .int .i64 t]] w (Res w (onlyV bs f t)) := by
  by_cases t0 : validB bs = true
  · skip
    by_cases t1 : rngB f t = true
    · skip
      have HV := Lib.hid (show onlyV bs f t = _ from if_pos ⟨t0, t1⟩)
      go_enter Try.func40, Try.ntmps40
      go_wp2_with (first | (go_at_call 41; refine (rvalidH_any v bs _ (hv.later (below_al _ _))).mono ?_; rintro e w1 ⟨rfl, HB⟩; obtain ⟨d0, d1⟩ := box2 HB; rw [t0]) | (go_at_call 58; refine (rRange_any _ _ _).mono ?_; rintro e w2 ⟨rfl, H1⟩; replace H1 := below_trans HB H1; obtain ⟨e0, e1⟩ := box2 H1; rw [t1]) | (go_at_call 61; refine (one_any _ _ _ _).mono ?_; rintro e w4 ⟨⟨v1, rfl, h1⟩, H3⟩; have HC := below_trans (below_trans (below_al _ _) H1) H3) | (go_at_call 60; refine (rcomb_any bs [⟨f, t, 0⟩] v v1 2 (-1) (-1) onlyG _ (hv.later HC) h1 t0 (valid_one t1 (by decide)) good_only).mono ?_; rintro e w5 ⟨v2, rfl, h2, H4⟩))
      go_ret2
      exact ⟨v2, by rw [HV.out]; rfl, by rw [HV.out]; exact h2, below_trans HC H4⟩
    · have u1 : rngB f t = false := by simpa using t1
      have HV := Lib.hid (show onlyV bs f t = ([], 130) from if_neg (fun h => t1 h.2))
      clear t1
      go_enter Try.func40, Try.ntmps40
      go_wp2_with (first | (go_at_call 41; refine (rvalidH_any v bs _ (hv.later (below_al _ _))).mono ?_; rintro e w1 ⟨rfl, HB⟩; obtain ⟨d0, d1⟩ := box2 HB; rw [t0]) | (go_at_call 58; refine (rRange_any _ _ _).mono ?_; rintro e w2 ⟨rfl, H1⟩; replace H1 := below_trans HB H1; obtain ⟨e0, e1⟩ := box2 H1; rw [u1]))
      go_ret2
      exact Res.none HV.out (below_trans (below_al _ _) H1)
  · have u0 : validB bs = false := by simpa using t0
    have HV := Lib.hid (show onlyV bs f t = ([], 130) from if_neg (fun h => t0 h.1))
    clear t0
    go_enter Try.func40, Try.ntmps40
    go_wp2_with (first | (go_at_call 41; refine (rvalidH_any v bs _ (hv.later (below_al _ _))).mono ?_; rintro e w1 ⟨rfl, HB⟩; obtain ⟨d0, d1⟩ := box2 HB; rw [u0]))
    go_ret2
    exact Res.none HV.out (below_trans (below_al _ _) HB)
theorem roverlay_any (va vb : Value) (as_ bs : List B3) (w : World) (hva : HoldsB w w.heap.size va as_) (hvb : HoldsB w w.heap.size vb bs) :
    Calls Try.prog 43 #[va, vb] w (Res w (overlayV as_ bs)) := by
  by_cases t0 : validB as_ = true
  · by_cases t1 : validB bs = true
    · have HV := Lib.hid (show overlayV as_ bs = _ from if_pos ⟨t0, t1⟩)
      go_enter Try.func43, Try.ntmps43
      go_wp2_with fail
      refine (rvalidH_any va as_ _ hva).mono ?_
      rintro e w1 ⟨rfl, HB⟩
      rw [t0]
      go_wp2_with fail
      refine (rvalidH_any vb bs _ (hvb.later HB)).mono ?_
      rintro e w2 ⟨rfl, H1⟩
      replace H1 := below_trans HB H1
      rw [t1]
      go_wp2_with fail
      refine (rcomb_any as_ bs va vb 0 (-1) (-1) overG _ (hva.later H1) (hvb.later H1) t0 t1 good_over).mono ?_
      rintro e w5 ⟨v2, rfl, h2, H4⟩
      go_wp2_with fail
      go_ret2
      exact ⟨v2, by rw [HV.out]; rfl, by rw [HV.out]; exact h2, below_trans H1 H4⟩
    · have u1 : validB bs = false := by simpa using t1
      have HV := Lib.hid (show overlayV as_ bs = ([], 130) from if_neg (fun h => t1 h.2))
      clear t1
      go_enter Try.func43, Try.ntmps43
      go_wp2_with fail
      refine (rvalidH_any va as_ _ hva).mono ?_
      rintro e w1 ⟨rfl, HB⟩
      rw [t0]
      go_wp2_with fail
      refine (rvalidH_any vb bs _ (hvb.later HB)).mono ?_
      rintro e w2 ⟨rfl, H1⟩
      replace H1 := below_trans HB H1
      rw [u1]
      go_wp2_with fail
      go_ret2
      exact Res.none HV.out H1
  · have u0 : validB as_ = false := by simpa using t0
    have HV := Lib.hid (show overlayV as_ bs = ([], 130) from if_neg (fun h => t0 h.1))
    clear t0
    go_enter Try.func43, Try.ntmps43
    go_wp2_with fail
    refine (rvalidH_any va as_ _ hva).mono ?_
    rintro e w1 ⟨rfl, HB⟩
    rw [u0]
    go_wp2_with fail
    go_ret2
    exact Res.none HV.out HB
theorem rswap_any (v : Value) (bs : List B3) (x y : Int) (w : World) (hv : HoldsB w w.heap.size v bs) :
    Calls Try.prog 44 #[v, .int .i64 x, .int .i64 y] w (Res w (swapV bs x y)) := by
  by_cases t0 : validB bs = true
  · skip
    by_cases t1 : carB x = true
    · skip
      by_cases t2 : carB y = true
      · skip
        have HV := Lib.hid (show swapV bs x y = combR (rswapG x y) bs [] by rw [swapV, if_pos ⟨t0, t1, t2⟩, comb_swap t1])
        go_enter Try.func44, Try.ntmps44
        go_wp2_with fail
        refine (rvalidH_any v bs _ hv).mono ?_
        rintro e w1 ⟨rfl, HB⟩
        rw [t0]
        go_wp2_with fail
        refine (rcarrier_any x _).mono ?_
        rintro e w2 ⟨rfl, H1⟩
        replace H1 := below_trans HB H1
        rw [t1]
        go_wp2_with fail
        refine (rcarrier_any y _).mono ?_
        rintro e w3 ⟨rfl, H2⟩
        replace H2 := below_trans H1 H2
        rw [t2]
        go_wp2_with fail
        refine (rcomb_any bs [] v (.slice none 0 0) 0 x y (rswapG x y) _ (hv.later H2) (holds_nil _ _) t0 valid_nil (good_swap t2)).mono ?_
        rintro e w5 ⟨v2, rfl, h2, H4⟩
        go_wp2_with fail
        go_ret2
        exact ⟨v2, by rw [HV.out]; rfl, by rw [HV.out]; exact h2, below_trans H2 H4⟩
      · have u2 : carB y = false := by simpa using t2
        have HV := Lib.hid (show swapV bs x y = ([], 130) from if_neg (fun h => t2 h.2.2))
        clear t2
        go_enter Try.func44, Try.ntmps44
        go_wp2_with fail
        refine (rvalidH_any v bs _ hv).mono ?_
        rintro e w1 ⟨rfl, HB⟩
        rw [t0]
        go_wp2_with fail
        refine (rcarrier_any x _).mono ?_
        rintro e w2 ⟨rfl, H1⟩
        replace H1 := below_trans HB H1
        rw [t1]
        go_wp2_with fail
        refine (rcarrier_any y _).mono ?_
        rintro e w3 ⟨rfl, H2⟩
        replace H2 := below_trans H1 H2
        rw [u2]
        go_wp2_with fail
        go_ret2
        exact Res.none HV.out H2
    · have u1 : carB x = false := by simpa using t1
      have HV := Lib.hid (show swapV bs x y = ([], 130) from if_neg (fun h => t1 h.2.1))
      clear t1
      go_enter Try.func44, Try.ntmps44
      go_wp2_with fail
      refine (rvalidH_any v bs _ hv).mono ?_
      rintro e w1 ⟨rfl, HB⟩
      rw [t0]
      go_wp2_with fail
      refine (rcarrier_any x _).mono ?_
      rintro e w2 ⟨rfl, H1⟩
      replace H1 := below_trans HB H1
      rw [u1]
      go_wp2_with fail
      go_ret2
      exact Res.none HV.out H1
  · have u0 : validB bs = false := by simpa using t0
    have HV := Lib.hid (show swapV bs x y = ([], 130) from if_neg (fun h => t0 h.1))
    clear t0
    go_enter Try.func44, Try.ntmps44
    go_wp2_with fail
    refine (rvalidH_any v bs _ hv).mono ?_
    rintro e w1 ⟨rfl, HB⟩
    rw [u0]
    go_wp2_with fail
    go_ret2
    exact Res.none HV.out HB
end Go.Proofs.Ytmgippddljmfjaa
