/-
  block.Give, Take, Only, Overlay, Swap.
-/
import Derived.Test.YtmgippddljmfjaaWalk8
namespace Go.Proofs.Ytmgippddljmfjaa
open Go Go.RowKit Go.Dial Go.Dial.Blk

def combR (g : Int → Int → Int) (a b : List B3) : List B3 × Int := if (foldS g (pieces a b 0)).length ≤ 40 then (foldS g (pieces a b 0), 0) else ([], 130)
/-- how a function ends that returns a map, or an error -/
def Res (w : World) (r : List B3 × Int) (e : Ending) (w' : World) : Prop := ∃ v, e = .returned (.tuple #[v, .int .i64 r.2]) ∧ HoldsB w' w'.heap.size v r.1 ∧ Below w.heap.size w w'

theorem comb_any (a b : List B3) (va vb : Value) (fn : Nat) (cap : Array Value) (g : Int → Int → Int) (w : World) (hva : HoldsB w w.heap.size va a) (hvb : HoldsB w w.heap.size vb b) (ha : Some a) (hb : Some b)
    (hcall : ∀ args w, (callFunc fn args).run Try.prog w = .ok (.enter fn args) w)
    (hf : ∀ x y W, Below w.heap.size w W → Calls Try.prog fn (#[.int .i64 x, .int .i64 y] ++ cap) W fun e W' => e = .returned (.int .i64 (g x y)) ∧ Below W.heap.size W W') :
    Calls Try.prog 49 #[va, vb, .func (.func fn) #[] cap] w (Res w (combR g a b)) := by
  obtain ⟨A0, c0, rfl, h0, h1, h2⟩ := hva
  obtain ⟨A1, c1, rfl, h3, h4, h5⟩ := hvb
  refine (combine_any A0 A1 c0 c1 a b fn cap g w h0 h1 h3 h4 h2 h5 ha hb hcall hf).mono ?_
  rintro e w' ⟨v, rfl, hh, hb⟩
  unfold combR
  by_cases h : (foldS g (pieces a b 0)).length ≤ 40
  · rw [if_pos h] at hh ⊢; rw [if_pos h]; exact ⟨v, rfl, hh, hb⟩
  · rw [if_neg h] at hh ⊢; rw [if_neg h]; exact ⟨v, rfl, hh, hb⟩

def overG (x y : Int) : Int := if y = -1 then x else y
def takeG (x y : Int) : Int := if y = -1 then x else -1
def onlyG (x y : Int) : Int := if y = -1 then -1 else x
def swapG (u v x _y : Int) : Int := if x = u then v else x

theorem over_any (x y : Int) (w : World) : Calls Try.prog 51 #[.int .i64 x, .int .i64 y] w fun e w' => e = .returned (.int .i64 (overG x y)) ∧ Below w.heap.size w w' := by
  by_cases h : y = -1
  · have HV : Hid (overG x y = x) := Lib.hid (if_pos h)
    have t1 : (y != -1) = false := by rw [h]; rfl
    clear h
    go_enter Try.func51, Try.ntmps51
    go_wp2_with fail
    go_ret
    exact ⟨by rw [HV.out]; rfl, Below.refl _ _⟩
  · have HV : Hid (overG x y = y) := Lib.hid (if_neg h)
    have t1 : (y != -1) = true := by rw [bne_iff_ne]; exact h
    clear h
    go_enter Try.func51, Try.ntmps51
    go_wp2_with fail
    go_ret
    exact ⟨by rw [HV.out]; rfl, Below.refl _ _⟩
theorem takeF_any (x y : Int) (w : World) : Calls Try.prog 52 #[.int .i64 x, .int .i64 y] w fun e w' => e = .returned (.int .i64 (takeG x y)) ∧ Below w.heap.size w w' := by
  by_cases h : y = -1
  · have HV : Hid (takeG x y = x) := Lib.hid (if_pos h)
    have t1 : (y == -1) = true := by rw [h]; rfl
    clear h
    go_enter Try.func52, Try.ntmps52
    go_wp2_with fail
    go_ret
    exact ⟨by rw [HV.out]; rfl, Below.refl _ _⟩
  · have HV : Hid (takeG x y = -1) := Lib.hid (if_neg h)
    have t1 : (y == -1) = false := by rw [beq_eq_false_iff_ne]; exact h
    clear h
    go_enter Try.func52, Try.ntmps52
    go_wp2_with fail
    go_ret
    exact ⟨by rw [HV.out]; rfl, Below.refl _ _⟩
theorem onlyF_any (x y : Int) (w : World) : Calls Try.prog 53 #[.int .i64 x, .int .i64 y] w fun e w' => e = .returned (.int .i64 (onlyG x y)) ∧ Below w.heap.size w w' := by
  by_cases h : y = -1
  · have HV : Hid (onlyG x y = -1) := Lib.hid (if_pos h)
    have t1 : (y == -1) = true := by rw [h]; rfl
    clear h
    go_enter Try.func53, Try.ntmps53
    go_wp2_with fail
    go_ret
    exact ⟨by rw [HV.out]; rfl, Below.refl _ _⟩
  · have HV : Hid (onlyG x y = x) := Lib.hid (if_neg h)
    have t1 : (y == -1) = false := by rw [beq_eq_false_iff_ne]; exact h
    clear h
    go_enter Try.func53, Try.ntmps53
    go_wp2_with fail
    go_ret
    exact ⟨by rw [HV.out]; rfl, Below.refl _ _⟩
theorem swapF_any (x y u v : Int) (p q : Nat) (w : World) (h0 : w.heap[p]? = some (.cells #[.int .i64 u] 3)) (h1 : w.heap[q]? = some (.cells #[.int .i64 v] 3)) :
    Calls Try.prog 54 #[.int .i64 x, .int .i64 y, .pointer (some ⟨p, 0, none⟩), .pointer (some ⟨q, 0, none⟩)] w fun e w' => e = .returned (.int .i64 (swapG u v x y)) ∧ Below w.heap.size w w' := by
  have c0 := blk_cell (cs := [.int .i64 u]) h0 (i := 0) rfl
  have c1 := blk_cell (cs := [.int .i64 v]) h1 (i := 0) rfl
  clear h0 h1
  by_cases h : x = u
  · have HV : Hid (swapG u v x y = v) := Lib.hid (if_pos h)
    have t1 : (x == u) = true := by rw [h]; simp
    clear h
    go_enter Try.func54, Try.ntmps54
    go_wp2_with fail
    go_ret
    exact ⟨by rw [HV.out]; rfl, Below.refl _ _⟩
  · have HV : Hid (swapG u v x y = x) := Lib.hid (if_neg h)
    have t1 : (x == u) = false := by rw [beq_eq_false_iff_ne]; exact h
    clear h
    go_enter Try.func54, Try.ntmps54
    go_wp2_with fail
    go_ret
    exact ⟨by rw [HV.out]; rfl, Below.refl _ _⟩
theorem on_any (f t c : Int) (w : World) : Calls Try.prog 50 #[.agg #[.int .i64 f, .int .i64 t], .int .i64 c] w fun e w' => (∃ v, e = .returned v ∧ HoldsB w' w'.heap.size v [⟨f, t, c⟩]) ∧ Below w.heap.size w w' := by
  go_enter Try.func50, Try.ntmps50
  go_wp2_with fail
  go_ret
  refine ⟨⟨_, rfl, _, 1, rfl, Nat.le_refl _, by unfold maxLen; omega, rfl, ?_⟩, ((Below.refl _ w).alloc (Nat.le_refl _) _).alloc (by simp) _⟩
  intro j u hu
  refine ⟨_, rfl, by simp, ?_⟩
  have := World.news_of_block (cs := #[.int .i64 f, .int .i64 t, .int .i64 c]) (new_heap (w.alloc (.cells #[.int .i64 f, .int .i64 t] 26)) (.cells #[.int .i64 f, .int .i64 t, .int .i64 c] 53)) j u (by simpa [bcs, bcells] using hu)
  simpa using this
theorem some_one {f t c : Int} (h : rngB f t = true) (hc : carB c = true) : Some [⟨f, t, c⟩] := by
  simp [rngB] at h
  simp [carB] at hc
  exact ⟨0, -1, by simp [Asc]; omega⟩
theorem rngB_iff {f t : Int} : rngB f t = true ↔ 0 ≤ f ∧ f < t ∧ t ≤ 100000000 := by simp [rngB, and_assoc]
theorem carB_iff {c : Int} : carB c = true ↔ 0 ≤ c ∧ c ≤ 7 := by simp [carB]

def giveV (l : List B3) (f t c : Int) : List B3 × Int := if validB l = true ∧ rngB f t = true ∧ carB c = true then combR overG l [⟨f, t, c⟩] else ([], 130)
def takeV (l : List B3) (f t : Int) : List B3 × Int := if validB l = true ∧ rngB f t = true then combR takeG l [⟨f, t, 0⟩] else ([], 130)
def onlyV (l : List B3) (f t : Int) : List B3 × Int := if validB l = true ∧ rngB f t = true then combR onlyG l [⟨f, t, 0⟩] else ([], 130)
def overlayV (a b : List B3) : List B3 × Int := if validB a = true ∧ validB b = true then combR overG a b else ([], 130)
def swapV (l : List B3) (x y : Int) : List B3 × Int := if validB l = true ∧ carB x = true ∧ carB y = true then combR (swapG x y) l [] else ([], 130)

theorem HoldsB.below {w w' : World} {B : Nat} {v : Value} {bs : List B3} (h : HoldsB w B v bs) (hb : Below B w w') : HoldsB w' B v bs := h.keep fun k hk => hb.block k hk
theorem HoldsB.mono {w : World} {B B' : Nat} {v : Value} {bs : List B3} (h : HoldsB w B v bs) (hb : B ≤ B') : HoldsB w B' v bs := by
  obtain ⟨A, c, rfl, h1, h2, h3⟩ := h
  exact ⟨A, c, rfl, h1, h2, h3.mono hb⟩
theorem HoldsB.later {w w' : World} {v : Value} {bs : List B3} (h : HoldsB w w.heap.size v bs) (hb : Below w.heap.size w w') : HoldsB w' w'.heap.size v bs := (h.below hb).mono hb.size
theorem validH_any (v : Value) (bs : List B3) (w : World) (h : HoldsB w w.heap.size v bs) : Calls Try.prog 23 #[v] w fun e w' => e = .returned (.bool (validB bs)) ∧ Below w.heap.size w w' := by
  obtain ⟨A, c, rfl, h1, h2, h3⟩ := h
  exact valid_any A c bs w (Nat.le_trans h1 h2) h3
theorem below_trans {a b c : World} (h : Below a.heap.size a b) (k : Below b.heap.size b c) : Below a.heap.size a c := h.trans (k.mono h.size)
theorem Res.none {w w' : World} {k : List B3 × Int} (hk : k = ([], 130)) (hb : Below w.heap.size w w') : Res w k (.returned (.tuple #[.slice none 0 0, .int .i64 130])) w' := by
  subst hk; exact ⟨_, rfl, holds_nil _ _, hb⟩
theorem below_al (w : World) (o : Obj) : Below w.heap.size w (w.alloc o) := (Below.refl _ w).alloc (Nat.le_refl _) o
theorem box2 {w w1 : World} {x y : Value} {t : TypeId} (h : Below (w.alloc (.cells #[x, y] t)).heap.size (w.alloc (.cells #[x, y] t)) w1) : w1.cell? ⟨w.heap.size, 0, none⟩ = some x ∧ w1.cell? ⟨w.heap.size, 1, none⟩ = some y := by
  have hh := (h.block w.heap.size (by simp)).trans (new_heap w (.cells #[x, y] t))
  exact ⟨blk_cell (cs := [x, y]) hh (i := 0) rfl, blk_cell (cs := [x, y]) hh (i := 1) rfl⟩
set_option maxHeartbeats 1600000 in
theorem give_any (v : Value) (bs : List B3) (f t c : Int) (w : World) (hv : HoldsB w w.heap.size v bs) :
    Calls Try.prog 18 #[v, .agg #[.int .i64 f, .int .i64 t], .int .i64 c] w (Res w (giveV bs f t c)) := by
  by_cases t0 : validB bs = true
  · skip
    by_cases t1 : rngB f t = true
    · skip
      by_cases t2 : carB c = true
      · skip
        have HV := Lib.hid (show giveV bs f t c = _ from if_pos ⟨t0, t1, t2⟩)
        go_enter Try.func18, Try.ntmps18
        go_wp2_with (first | (go_at_call 23; refine (validH_any v bs _ (hv.later (below_al _ _))).mono ?_; rintro e w1 ⟨rfl, HB⟩; obtain ⟨d0, d1⟩ := box2 HB; rw [t0]) | (go_at_call 47; refine (isRange_any _ _ _).mono ?_; rintro e w2 ⟨rfl, H1⟩; replace H1 := below_trans HB H1; obtain ⟨e0, e1⟩ := box2 H1; rw [t1]) | (go_at_call 48; refine (isCarrier_any _ _).mono ?_; rintro e w3 ⟨rfl, H2⟩; replace H2 := below_trans H1 H2; obtain ⟨f0, f1⟩ := box2 H2; rw [t2]) | (go_at_call 50; refine (on_any _ _ _ _).mono ?_; rintro e w4 ⟨⟨v1, rfl, h1⟩, H3⟩; have HC := below_trans (below_trans (below_al _ _) H2) H3) | (go_at_call 49; refine (comb_any bs [⟨f, t, c⟩] v v1 51 #[] overG _ (hv.later HC) h1 (validB_iff.1 t0).2.some (some_one t1 t2) (fun _ _ => rfl) (fun x y W _ => over_any x y W)).mono ?_; rintro e w5 ⟨v2, rfl, h2, H4⟩))
        go_ret2
        exact ⟨v2, by rw [HV.out]; rfl, by rw [HV.out]; exact h2, below_trans HC H4⟩
      · have u2 : carB c = false := by simpa using t2
        have HV := Lib.hid (show giveV bs f t c = ([], 130) from if_neg (fun h => t2 h.2.2))
        clear t2
        go_enter Try.func18, Try.ntmps18
        go_wp2_with (first | (go_at_call 23; refine (validH_any v bs _ (hv.later (below_al _ _))).mono ?_; rintro e w1 ⟨rfl, HB⟩; obtain ⟨d0, d1⟩ := box2 HB; rw [t0]) | (go_at_call 47; refine (isRange_any _ _ _).mono ?_; rintro e w2 ⟨rfl, H1⟩; replace H1 := below_trans HB H1; obtain ⟨e0, e1⟩ := box2 H1; rw [t1]) | (go_at_call 48; refine (isCarrier_any _ _).mono ?_; rintro e w3 ⟨rfl, H2⟩; replace H2 := below_trans H1 H2; obtain ⟨f0, f1⟩ := box2 H2; rw [u2]))
        go_ret2
        exact Res.none HV.out (below_trans (below_al _ _) H2)
    · have u1 : rngB f t = false := by simpa using t1
      have HV := Lib.hid (show giveV bs f t c = ([], 130) from if_neg (fun h => t1 h.2.1))
      clear t1
      go_enter Try.func18, Try.ntmps18
      go_wp2_with (first | (go_at_call 23; refine (validH_any v bs _ (hv.later (below_al _ _))).mono ?_; rintro e w1 ⟨rfl, HB⟩; obtain ⟨d0, d1⟩ := box2 HB; rw [t0]) | (go_at_call 47; refine (isRange_any _ _ _).mono ?_; rintro e w2 ⟨rfl, H1⟩; replace H1 := below_trans HB H1; obtain ⟨e0, e1⟩ := box2 H1; rw [u1]))
      go_ret2
      exact Res.none HV.out (below_trans (below_al _ _) H1)
  · have u0 : validB bs = false := by simpa using t0
    have HV := Lib.hid (show giveV bs f t c = ([], 130) from if_neg (fun h => t0 h.1))
    clear t0
    go_enter Try.func18, Try.ntmps18
    go_wp2_with (first | (go_at_call 23; refine (validH_any v bs _ (hv.later (below_al _ _))).mono ?_; rintro e w1 ⟨rfl, HB⟩; obtain ⟨d0, d1⟩ := box2 HB; rw [u0]))
    go_ret2
    exact Res.none HV.out (below_trans (below_al _ _) HB)
set_option maxHeartbeats 1600000 in
theorem take_any (v : Value) (bs : List B3) (f t : Int) (w : World) (hv : HoldsB w w.heap.size v bs) :
    Calls Try.prog 19 #[v, .agg #[.int .i64 f, .int .i64 t]] w (Res w (takeV bs f t)) := by
  by_cases t0 : validB bs = true
  · skip
    by_cases t1 : rngB f t = true
    · skip
      have HV := Lib.hid (show takeV bs f t = _ from if_pos ⟨t0, t1⟩)
      go_enter Try.func19, Try.ntmps19
      go_wp2_with (first | (go_at_call 23; refine (validH_any v bs _ (hv.later (below_al _ _))).mono ?_; rintro e w1 ⟨rfl, HB⟩; obtain ⟨d0, d1⟩ := box2 HB; rw [t0]) | (go_at_call 47; refine (isRange_any _ _ _).mono ?_; rintro e w2 ⟨rfl, H1⟩; replace H1 := below_trans HB H1; obtain ⟨e0, e1⟩ := box2 H1; rw [t1]) | (go_at_call 50; refine (on_any _ _ _ _).mono ?_; rintro e w4 ⟨⟨v1, rfl, h1⟩, H3⟩; have HC := below_trans (below_trans (below_al _ _) H1) H3) | (go_at_call 49; refine (comb_any bs [⟨f, t, 0⟩] v v1 52 #[] takeG _ (hv.later HC) h1 (validB_iff.1 t0).2.some (some_one t1 (by decide)) (fun _ _ => rfl) (fun x y W _ => takeF_any x y W)).mono ?_; rintro e w5 ⟨v2, rfl, h2, H4⟩))
      go_ret2
      exact ⟨v2, by rw [HV.out]; rfl, by rw [HV.out]; exact h2, below_trans HC H4⟩
    · have u1 : rngB f t = false := by simpa using t1
      have HV := Lib.hid (show takeV bs f t = ([], 130) from if_neg (fun h => t1 h.2))
      clear t1
      go_enter Try.func19, Try.ntmps19
      go_wp2_with (first | (go_at_call 23; refine (validH_any v bs _ (hv.later (below_al _ _))).mono ?_; rintro e w1 ⟨rfl, HB⟩; obtain ⟨d0, d1⟩ := box2 HB; rw [t0]) | (go_at_call 47; refine (isRange_any _ _ _).mono ?_; rintro e w2 ⟨rfl, H1⟩; replace H1 := below_trans HB H1; obtain ⟨e0, e1⟩ := box2 H1; rw [u1]))
      go_ret2
      exact Res.none HV.out (below_trans (below_al _ _) H1)
  · have u0 : validB bs = false := by simpa using t0
    have HV := Lib.hid (show takeV bs f t = ([], 130) from if_neg (fun h => t0 h.1))
    clear t0
    go_enter Try.func19, Try.ntmps19
    go_wp2_with (first | (go_at_call 23; refine (validH_any v bs _ (hv.later (below_al _ _))).mono ?_; rintro e w1 ⟨rfl, HB⟩; obtain ⟨d0, d1⟩ := box2 HB; rw [u0]))
    go_ret2
    exact Res.none HV.out (below_trans (below_al _ _) HB)
set_option maxHeartbeats 1600000 in
theorem only_any (v : Value) (bs : List B3) (f t : Int) (w : World) (hv : HoldsB w w.heap.size v bs) :
    Calls Try.prog 20 #[v, .agg #[.int .i64 f, .int .i64 t]] w (Res w (onlyV bs f t)) := by
  by_cases t0 : validB bs = true
  · skip
    by_cases t1 : rngB f t = true
    · skip
      have HV := Lib.hid (show onlyV bs f t = _ from if_pos ⟨t0, t1⟩)
      go_enter Try.func20, Try.ntmps20
      go_wp2_with (first | (go_at_call 23; refine (validH_any v bs _ (hv.later (below_al _ _))).mono ?_; rintro e w1 ⟨rfl, HB⟩; obtain ⟨d0, d1⟩ := box2 HB; rw [t0]) | (go_at_call 47; refine (isRange_any _ _ _).mono ?_; rintro e w2 ⟨rfl, H1⟩; replace H1 := below_trans HB H1; obtain ⟨e0, e1⟩ := box2 H1; rw [t1]) | (go_at_call 50; refine (on_any _ _ _ _).mono ?_; rintro e w4 ⟨⟨v1, rfl, h1⟩, H3⟩; have HC := below_trans (below_trans (below_al _ _) H1) H3) | (go_at_call 49; refine (comb_any bs [⟨f, t, 0⟩] v v1 53 #[] onlyG _ (hv.later HC) h1 (validB_iff.1 t0).2.some (some_one t1 (by decide)) (fun _ _ => rfl) (fun x y W _ => onlyF_any x y W)).mono ?_; rintro e w5 ⟨v2, rfl, h2, H4⟩))
      go_ret2
      exact ⟨v2, by rw [HV.out]; rfl, by rw [HV.out]; exact h2, below_trans HC H4⟩
    · have u1 : rngB f t = false := by simpa using t1
      have HV := Lib.hid (show onlyV bs f t = ([], 130) from if_neg (fun h => t1 h.2))
      clear t1
      go_enter Try.func20, Try.ntmps20
      go_wp2_with (first | (go_at_call 23; refine (validH_any v bs _ (hv.later (below_al _ _))).mono ?_; rintro e w1 ⟨rfl, HB⟩; obtain ⟨d0, d1⟩ := box2 HB; rw [t0]) | (go_at_call 47; refine (isRange_any _ _ _).mono ?_; rintro e w2 ⟨rfl, H1⟩; replace H1 := below_trans HB H1; obtain ⟨e0, e1⟩ := box2 H1; rw [u1]))
      go_ret2
      exact Res.none HV.out (below_trans (below_al _ _) H1)
  · have u0 : validB bs = false := by simpa using t0
    have HV := Lib.hid (show onlyV bs f t = ([], 130) from if_neg (fun h => t0 h.1))
    clear t0
    go_enter Try.func20, Try.ntmps20
    go_wp2_with (first | (go_at_call 23; refine (validH_any v bs _ (hv.later (below_al _ _))).mono ?_; rintro e w1 ⟨rfl, HB⟩; obtain ⟨d0, d1⟩ := box2 HB; rw [u0]))
    go_ret2
    exact Res.none HV.out (below_trans (below_al _ _) HB)
theorem overlay_any (va vb : Value) (as_ bs : List B3) (w : World) (hva : HoldsB w w.heap.size va as_) (hvb : HoldsB w w.heap.size vb bs) :
    Calls Try.prog 21 #[va, vb] w (Res w (overlayV as_ bs)) := by
  by_cases t0 : validB as_ = true
  · by_cases t1 : validB bs = true
    · have HV := Lib.hid (show overlayV as_ bs = _ from if_pos ⟨t0, t1⟩)
      go_enter Try.func21, Try.ntmps21
      go_wp2_with fail
      refine (validH_any va as_ _ hva).mono ?_
      rintro e w1 ⟨rfl, HB⟩
      rw [t0]
      go_wp2_with fail
      refine (validH_any vb bs _ (hvb.later HB)).mono ?_
      rintro e w2 ⟨rfl, H1⟩
      replace H1 := below_trans HB H1
      rw [t1]
      go_wp2_with fail
      refine (comb_any as_ bs va vb 51 #[] overG _ (hva.later H1) (hvb.later H1) (validB_iff.1 t0).2.some (validB_iff.1 t1).2.some (fun _ _ => rfl) (fun x y W _ => over_any x y W)).mono ?_
      rintro e w5 ⟨v2, rfl, h2, H4⟩
      go_wp2_with fail
      go_ret2
      exact ⟨v2, by rw [HV.out]; rfl, by rw [HV.out]; exact h2, below_trans H1 H4⟩
    · have u1 : validB bs = false := by simpa using t1
      have HV := Lib.hid (show overlayV as_ bs = ([], 130) from if_neg (fun h => t1 h.2))
      clear t1
      go_enter Try.func21, Try.ntmps21
      go_wp2_with fail
      refine (validH_any va as_ _ hva).mono ?_
      rintro e w1 ⟨rfl, HB⟩
      rw [t0]
      go_wp2_with fail
      refine (validH_any vb bs _ (hvb.later HB)).mono ?_
      rintro e w2 ⟨rfl, H1⟩
      replace H1 := below_trans HB H1
      rw [u1]
      go_wp2_with fail
      go_ret2
      exact Res.none HV.out H1
  · have u0 : validB as_ = false := by simpa using t0
    have HV := Lib.hid (show overlayV as_ bs = ([], 130) from if_neg (fun h => t0 h.1))
    clear t0
    go_enter Try.func21, Try.ntmps21
    go_wp2_with fail
    refine (validH_any va as_ _ hva).mono ?_
    rintro e w1 ⟨rfl, HB⟩
    rw [u0]
    go_wp2_with fail
    go_ret2
    exact Res.none HV.out HB
theorem boxes {w w1 : World} {x y : Value} {t t' : TypeId} (h : Below ((w.alloc (.cells #[x] t)).alloc (.cells #[y] t')).heap.size ((w.alloc (.cells #[x] t)).alloc (.cells #[y] t')) w1) :
    (w1.cell? ⟨w.heap.size, 0, none⟩ = some x ∧ w1.cell? ⟨w.heap.size + 1, 0, none⟩ = some y) ∧ w1.heap[w.heap.size]? = some (.cells #[x] t) ∧ w1.heap[w.heap.size + 1]? = some (.cells #[y] t') := by
  have h0 := (h.block w.heap.size (by simp; omega)).trans (alloc_old _ (new_heap w (.cells #[x] t)))
  have h1' := new_heap (w.alloc (.cells #[x] t)) (.cells #[y] t')
  rw [World.size_alloc] at h1'
  have h1 := (h.block (w.heap.size + 1) (by simp)).trans h1'
  exact ⟨⟨blk_cell (cs := [x]) h0 (i := 0) rfl, blk_cell (cs := [y]) h1 (i := 0) rfl⟩, h0, h1⟩
theorem below_al2 (w : World) (o o' : Obj) : Below w.heap.size w ((w.alloc o).alloc o') := below_trans (below_al _ _) (below_al _ _)
set_option maxHeartbeats 1600000 in
theorem swap_any (v : Value) (bs : List B3) (x y : Int) (w : World) (hv : HoldsB w w.heap.size v bs) :
    Calls Try.prog 22 #[v, .int .i64 x, .int .i64 y] w (Res w (swapV bs x y)) := by
  by_cases t0 : validB bs = true
  · skip
    by_cases t1 : carB x = true
    · skip
      by_cases t2 : carB y = true
      · skip
        have HV := Lib.hid (show swapV bs x y = _ from if_pos ⟨t0, t1, t2⟩)
        go_enter Try.func22, Try.ntmps22
        go_wp2_with (first | (go_at_call 23; refine (validH_any v bs _ (hv.later (below_al2 _ _ _))).mono ?_; rintro e w1 ⟨rfl, HB⟩; obtain ⟨⟨d0, d1⟩, -, -⟩ := boxes HB; rw [t0]) | (go_at_call 48; refine (isCarrier_any x _).mono ?_; rintro e w2 ⟨rfl, H1⟩; replace H1 := below_trans HB H1; obtain ⟨⟨e0, e1⟩, -, -⟩ := boxes H1; rw [t1]) | (go_at_call 48; refine (isCarrier_any y _).mono ?_; rintro e w3 ⟨rfl, H2⟩; replace H2 := below_trans H1 H2; have HX := Lib.hid (boxes H2).2; rw [t2]) | (go_at_call 49; refine (comb_any bs [] v (.slice none 0 0) 54 #[.pointer (some ⟨w.heap.size, 0, none⟩), .pointer (some ⟨w.heap.size + 1, 0, none⟩)] (swapG x y) _ (hv.later (below_trans (below_al2 _ _ _) H2)) (holds_nil _ _) (validB_iff.1 t0).2.some ⟨0, 0, trivial⟩ (fun _ _ => rfl) (fun x' y' W hb => swapF_any x' y' x y _ _ W ((hb.block _ (Array.getElem?_eq_some_iff.1 HX.out.1).1).trans HX.out.1) ((hb.block _ (Array.getElem?_eq_some_iff.1 HX.out.2).1).trans HX.out.2))).mono ?_; rintro e w5 ⟨v2, rfl, h2, H4⟩))
        go_ret2
        exact ⟨v2, by rw [HV.out]; rfl, by rw [HV.out]; exact h2, below_trans (below_trans (below_al2 _ _ _) H2) H4⟩
      · have u2 : carB y = false := by simpa using t2
        have HV := Lib.hid (show swapV bs x y = ([], 130) from if_neg (fun h => t2 h.2.2))
        clear t2
        go_enter Try.func22, Try.ntmps22
        go_wp2_with (first | (go_at_call 23; refine (validH_any v bs _ (hv.later (below_al2 _ _ _))).mono ?_; rintro e w1 ⟨rfl, HB⟩; obtain ⟨⟨d0, d1⟩, -, -⟩ := boxes HB; rw [t0]) | (go_at_call 48; refine (isCarrier_any x _).mono ?_; rintro e w2 ⟨rfl, H1⟩; replace H1 := below_trans HB H1; obtain ⟨⟨e0, e1⟩, -, -⟩ := boxes H1; rw [t1]) | (go_at_call 48; refine (isCarrier_any y _).mono ?_; rintro e w3 ⟨rfl, H2⟩; replace H2 := below_trans H1 H2; have HX := Lib.hid (boxes H2).2; rw [u2]))
        go_ret2
        exact Res.none HV.out (below_trans (below_al2 _ _ _) H2)
    · have u1 : carB x = false := by simpa using t1
      have HV := Lib.hid (show swapV bs x y = ([], 130) from if_neg (fun h => t1 h.2.1))
      clear t1
      go_enter Try.func22, Try.ntmps22
      go_wp2_with (first | (go_at_call 23; refine (validH_any v bs _ (hv.later (below_al2 _ _ _))).mono ?_; rintro e w1 ⟨rfl, HB⟩; obtain ⟨⟨d0, d1⟩, -, -⟩ := boxes HB; rw [t0]) | (go_at_call 48; refine (isCarrier_any x _).mono ?_; rintro e w2 ⟨rfl, H1⟩; replace H1 := below_trans HB H1; obtain ⟨⟨e0, e1⟩, -, -⟩ := boxes H1; rw [u1]))
      go_ret2
      exact Res.none HV.out (below_trans (below_al2 _ _ _) H1)
  · have u0 : validB bs = false := by simpa using t0
    have HV := Lib.hid (show swapV bs x y = ([], 130) from if_neg (fun h => t0 h.1))
    clear t0
    go_enter Try.func22, Try.ntmps22
    go_wp2_with (first | (go_at_call 23; refine (validH_any v bs _ (hv.later (below_al2 _ _ _))).mono ?_; rintro e w1 ⟨rfl, HB⟩; obtain ⟨⟨d0, d1⟩, -, -⟩ := boxes HB; rw [u0]))
    go_ret2
    exact Res.none HV.out (below_trans (below_al2 _ _ _) HB)
end Go.Proofs.Ytmgippddljmfjaa
