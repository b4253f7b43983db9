/-
  life.Run.
-/
import Derived.Test.YtjhakonpnopcnaaL6
import Derived.Deep.AppendLies
import Derived.BigRegionIn
set_option linter.unusedVariables false
set_option linter.unusedSimpArgs false
namespace Go.Proofs.Ytjhakonpnopcnaa
open Go Go.RowKit Go.Dial Go.Dial.Lif
attribute [local go_sem] Oper.semAt_some

def lnc (l : Ln) : Array Value := #[.int .i64 l.s, .int .i64 l.h, .int .i64 l.e, .int .i64 l.t]
/-- what the range of Run collects -/
def runAcc (pre : List (Int × Ln)) : Int × Ln := match pre.getLast? with | some p => (p.1 + 1, p.2) | none => (0, zero)
theorem runAcc_snoc (pre : List (Int × Ln)) (x : Int × Ln) : runAcc (pre ++ [x]) = (x.1 + 1, x.2) := by simp [runAcc]
theorem runAcc_lines (es : List Ev) : runAcc (linesL es) = (((runF first es).2 : Int), (runF first es).1) := by
  have hl := linesA_len 0 first es
  have h1 : (linesL es).getLast? = some ((((runF first es).2 : Int) - 1), (runF first es).1) := by
    rw [List.getLast?_eq_getElem?]
    have : (linesL es).length = (runF first es).2 + 1 := by simp [linesL, hl]
    rw [this, Nat.add_sub_cancel, runF_1]
    cases hn : (runF first es).2 with
    | zero => simp [linesL, fin]
    | succ m =>
      have hm : m < (linesA 0 first es).length := by omega
      rw [linesL, List.getElem?_cons_succ, List.getElem?_eq_getElem hm, linesA_get hm]
      congr 2
      omega
  rw [runAcc, h1]; simp
theorem linesL_len (es : List Ev) : (linesL es).length ≤ es.length + 1 := by
  have h1 := linesA_len 0 first es
  have h2 := runF_le first es
  simp [linesL, h1]; exact h2
def RunPost (es : List Ev) (w : World) (e : Ending) (w' : World) : Prop := e = .returned (.tuple #[lnA (runR es).1.1, .int .i64 ((runR es).1.2 : Int), .int .i64 (runR es).2]) ∧ Below w.heap.size w w'
theorem linesL_bd {pre post : List (Int × Ln)} {l : List Ev} {x : Int × Ln} (h : linesL l = pre ++ x :: post) (hl : l.length ≤ 40) : -1 ≤ x.1 ∧ x.1 ≤ 40 := by
  have hx : x ∈ linesL l := by rw [h]; simp
  have hlen := linesA_len 0 first l
  have hle := runF_le first l
  rcases List.mem_cons.1 hx with rfl | hx
  · decide
  · obtain ⟨k, hk, rfl⟩ := List.getElem_of_mem hx
    rw [linesA_get hk]
    simp only; omega

theorem two_sets5 {X : World} {p q : Nat} {v a b c d x y0 y1 y2 y3 : Value} {t t' : TypeId} (hp : Boxed X p t x) (hq : X.heap[q]? = some (.cells #[y0, y1, y2, y3] t')) (hne : p ≠ q) :
    Boxed (((((X.setCell ⟨p, 0, none⟩ v).setCell ⟨q, 0, none⟩ a).setCell ⟨q, 1, none⟩ b).setCell ⟨q, 2, none⟩ c).setCell ⟨q, 3, none⟩ d).drew p t v ∧
      (((((X.setCell ⟨p, 0, none⟩ v).setCell ⟨q, 0, none⟩ a).setCell ⟨q, 1, none⟩ b).setCell ⟨q, 2, none⟩ c).setCell ⟨q, 3, none⟩ d).drew.heap[q]? = some (.cells #[a, b, c, d] t') ∧
      Ext (fun k => k = p ∨ k = q) X (((((X.setCell ⟨p, 0, none⟩ v).setCell ⟨q, 0, none⟩ a).setCell ⟨q, 1, none⟩ b).setCell ⟨q, 2, none⟩ c).setCell ⟨q, 3, none⟩ d).drew := by
  have hp1 : Boxed (X.setCell ⟨p, 0, none⟩ v) p t v := by
    unfold Boxed at hp ⊢; simp [World.setCell, Array.getElem?_modify, hp]
  have hq1 : (X.setCell ⟨p, 0, none⟩ v).heap[q]? = some (.cells #[y0, y1, y2, y3] t') := (Below.heap_setCell _ _ _ _ (Ne.symm hne)).trans hq
  obtain ⟨s1, s2⟩ := set4 a b c d hq1
  have e : ∀ W : World, W.drew.heap = W.heap := fun _ => rfl
  refine ⟨by unfold Boxed; rw [e]; exact s2.keeps hp1 hne, by rw [e]; exact s1, ?_⟩
  exact (((Ext.setCell (fun k => k = p ∨ k = q) X ⟨p, 0, none⟩ v (.inl rfl))).trans (s2.mono (fun k _ e => .inr e))).trans (Ext.drew _ _)
theorem keeps_belowF {B : Nat} {X Y : World} (h : Below X.heap.size X Y) : KeepsFrom B X Y :=
  ⟨h.size, fun k _ _ hk _ => (h.block k (Array.getElem?_eq_some_iff.1 hk).1).trans hk⟩
theorem span_pre' {α : Type} {f : α → List Value} {sz : Nat} (hf : ∀ y, (f y).length = sz) {w : World} {B n m : Nat} {A : Option Addr} {l : List α} (h : Span w B sz A n (l.flatMap f)) (hm : m ≤ l.length) (he : (l.take 40).length = m) : Span w B sz A m ((l.take 40).flatMap f) := by
  have e : l.take 40 = l.take m := by
    rw [List.length_take] at he
    rcases Nat.le_total 40 l.length with h1 | h1
    · rw [Nat.min_eq_left h1] at he; rw [he]
    · rw [Nat.min_eq_right h1] at he; rw [List.take_of_length_le h1, ← he, List.take_length]
  rw [e]; exact span_pre hf h hm
set_option maxRecDepth 100000 in
set_option maxHeartbeats 1600000 in
theorem lrun_m (A : Option Addr) (c m : Nat) (es : List Ev) (w : World) (hm : (es.take 40).length = m) (hsl : (es.length ≤ 40 ∧ m = es.length) ∨ (¬ es.length ≤ 40 ∧ m = 40)) (h0 : es.length ≤ c) (h1 : c ≤ maxLen) (hsp : Span w w.heap.size 3 A es.length (es.flatMap evc)) :
    Calls Try.prog 8 #[.slice A es.length c] w (RunPost es w) := by
  refine (callsIn_wide (n := 0)).1 (callsIn_of_wp_marks Try.func8 rfl trivial ?_)
  simp only [Try.ntmps8, List.size_toArray, List.length_cons, List.length_nil, Nat.reduceAdd, Nat.reduceSub, Array.replicate_succ, Array.replicate_zero, List.push_toArray, List.append_toArray, List.nil_append, List.cons_append]
  have SP := Lib.hid hsp
  have HM := Lib.hid hm
  unfold maxLen at h1
  clear hsp hm
  rcases hsl with ⟨g1, rfl⟩ | ⟨g1, rfl⟩
  · gi_wp2_with fail
    all_goals (first | (exfalso; omega) | skip)
    refine ((callsIn_wide (n := 0)).2 (llines_any A es.length c _)).mono ?_
    rintro e w' ⟨rfl, rfl⟩
    gi_wp2_with fail
    obtain ⟨w0, hw0⟩ : ∃ w0, w0 = (((w.alloc (.cells (lnc zero) 26)).alloc (.cells #[.int .i64 0] 3)).alloc (.cells (lnc zero) 26)).alloc (.cells #[.slice A es.length c] 24) := ⟨_, rfl⟩
    have hw0' := hw0
    dsimp only [lnc, zero] at hw0'
    rw [← hw0']
    have hsz : w0.heap.size = w.heap.size + 4 := by rw [hw0]; simp
    have b2 : w0.heap[w.heap.size]? = some (.cells (lnc zero) 26) := by rw [hw0]; exact oldcell _ (oldcell _ (oldcell _ (newcell _ _)))
    have b5 : Boxed w0 (w.heap.size + 1) 3 (.int .i64 0) := by
      rw [hw0]; refine oldcell _ (oldcell _ ?_); have := newcell (w.alloc (.cells (lnc zero) 26)) (.cells #[.int .i64 0] 3); simpa using this
    have b6 : w0.heap[w.heap.size + 2]? = some (.cells (lnc zero) 26) := by
      rw [hw0]; refine oldcell _ ?_; have := newcell ((w.alloc (.cells (lnc zero) 26)).alloc (.cells #[.int .i64 0] 3)) (.cells (lnc zero) 26); simpa using this
    have bl : Boxed w0 (w.heap.size + 3) 24 (.slice A es.length c) := by
      rw [hw0]; have := newcell (((w.alloc (.cells (lnc zero) 26)).alloc (.cells #[.int .i64 0] 3)).alloc (.cells (lnc zero) 26)) (.cells #[.slice A es.length c] 24); rw [show (((w.alloc (.cells (lnc zero) 26)).alloc (.cells #[.int .i64 0] 3)).alloc (.cells (lnc zero) 26)).heap.size = w.heap.size + 3 by simp] at this; exact this
    have hbel0 : Below w.heap.size w w0 := by
      rw [hw0]; exact below_then (below_new3 _ _ _ _) (below_new _ _)
    have hH : HoldsG evc 3 w0 w.heap.size (.slice A es.length c) (es.take 40) := by
      refine ⟨A, c, by rw [HM.out], by rw [HM.out]; omega, by unfold maxLen; omega, ?_⟩
      rw [HM.out]
      exact span_pre' evc_len (SP.out.below hbel0 (Nat.le_refl _)) (by omega) HM.out
    clear hw0 hw0'
    have hI : ∀ (pre : List (Int × Ln)) (X Y : World), (X.heap[w.heap.size]? = some (.cells (lnc zero) 26) ∧ Boxed X (w.heap.size + 1) 3 (.int .i64 (runAcc pre).1) ∧ X.heap[w.heap.size + 2]? = some (.cells (lnc (runAcc pre).2) 26) ∧ Below w.heap.size w X) →
        Ext (sideP (protT 26) (fun _ => False) w0.heap.size X) X Y →
        (Y.heap[w.heap.size]? = some (.cells (lnc zero) 26) ∧ Boxed Y (w.heap.size + 1) 3 (.int .i64 (runAcc pre).1) ∧ Y.heap[w.heap.size + 2]? = some (.cells (lnc (runAcc pre).2) 26) ∧ Below w.heap.size w Y) := by
      rintro pre X Y ⟨h1, h2, h3, h4⟩ hx
      exact ⟨cells_sideP h1 hx (fun h => h) (.inr (by omega)), boxed_sideP h2 hx (fun h => h) (.inr (by omega)), cells_sideP h3 hx (fun h => h) (.inr (by omega)), below_sideP h4 hx (fun _ h => h.elim) (by omega) (Nat.le_refl _)⟩
    refine wpIn_rangeIt2 (gf := 47) (lb := #[.pointer (some ⟨w.heap.size + 3, 0, none⟩)]) rfl (enters_of Try.func47 (by kernel_rfl) rfl) (encs := encL) (xs := linesL (es.take 40))
      (mine := fun _ => False) (needs := fun k => k < w.heap.size ∨ k = w.heap.size + 3) (prot := protT 26) protT_cells
      (by intro k hk; exact hk.elim) (by intro k hk; omega)
      (fun W1 hx => lines_iter (es.take 40) _ w.heap.size _ W1 (by omega) ((hx.block _ (by omega)).trans bl) (hH.keep (fun k hk => hx.block k (by omega)))) (fun _ => rfl)
      (fun pre W => W.heap[w.heap.size]? = some (.cells (lnc zero) 26) ∧ Boxed W (w.heap.size + 1) 3 (.int .i64 (runAcc pre).1) ∧ W.heap[w.heap.size + 2]? = some (.cells (lnc (runAcc pre).2) 26) ∧ Below w.heap.size w W)
      (fun _ _ _ => False)
      hI (fun _ _ _ _ h _ => h) ⟨b2, b5, b6, hbel0⟩ ?roundA ?doneA (fun _ _ _ _ _ _ _ h => h.elim)
    case roundA =>
      rintro l pre ⟨i, M⟩ post W hxs hi0 hlt
      have hbd := linesL_bd hxs (by simp; omega)
      dsimp only at hbd
      dsimp only [encL, lnA]
      gi_wp2_with fail
      have hk1 : Below W.heap.size W (W.alloc (.cells #[.int .i64 M.s, .int .i64 M.h, .int .i64 M.e, .int .i64 M.t] 26)) := below_new _ _
      have hr1 : (W.alloc (.cells #[.int .i64 M.s, .int .i64 M.h, .int .i64 M.e, .int .i64 M.t] 26)).heap[W.heap.size]? = some (.cells #[.int .i64 M.s, .int .i64 M.h, .int .i64 M.e, .int .i64 M.t] 26) := newcell _ _
      refine ⟨keeps_belowF hk1, fun k hk => hk1.block k (by omega), KeepsP.below hk1, fun W₂ hx => ?_⟩
      have hi1 := hI _ _ _ hi0 (Ext.of_below hk1 (fun k h1 h2 => absurd h1 (by omega)))
      obtain ⟨h1, h2, h3, h4⟩ := hI _ _ _ hi1 (side_of hx)
      have hr2 := cells_side hr1 hx (fun h => h)
      obtain ⟨d0, d1, d2, d3, _, _, _, _, lt1⟩ := ln_cells hr2
      obtain ⟨c0, c1, c2, c3, f0, f1, f2, f3, lt2⟩ := ln_cells (l := (runAcc pre).2) h3
      have k5 := h2.cell
      have f5 := h2.frozen
      have si : IntKind.i64.wrap (i + 1) = i + 1 := IntWalk.i64_in _ (by omega)
      have ne1 : W.heap.size ≠ w.heap.size + 1 := by omega
      have ne2 : W.heap.size ≠ w.heap.size + 2 := by omega
      have ne3 : w.heap.size + 1 ≠ W.heap.size := by omega
      have ne4 : w.heap.size + 2 ≠ W.heap.size := by omega
      have H1 := Lib.hid h1
      have H2 := Lib.hid h2
      have H3 := Lib.hid h3
      have H4 := Lib.hid h4
      clear hr1 hr2 hi0 hi1 hx hk1 b2 b5 b6 bl hH hI hxs h1 h2 h3 h4
      gi_upto_region 5 with fail
      gi_region
      all_goals
        gi_wp2_with fail
        obtain ⟨r1, r2, r3⟩ := two_sets5 (v := .int .i64 (i + 1)) (a := .int .i64 M.s) (b := .int .i64 M.h) (c := .int .i64 M.e) (d := .int .i64 M.t) H2.out (q := w.heap.size + 2) H3.out (by omega)
        refine ⟨⟨r3.size, fun k o hk ho _ => r3.keeps ho (by omega)⟩, fun k hk => r3.block k (by omega) (by omega), fun k o hk _ ho => r3.keeps ho (by omega), ?_⟩
        simp only [runAcc_snoc]
        exact ⟨r3.keeps H1.out (by omega), r1, r2, H4.out.trans (r3.below (by omega) H4.out.size)⟩
    case doneA =>
      rintro D W ⟨h1, h2, h3, h4⟩ hD hK
      rw [runAcc_lines] at h2 h3
      dsimp only at h2 h3
      have hr : Hid (runR es = if (runF first (es.take 40)).2 = es.length then (((runF first (es.take 40)).1, es.length), 0) else ((zero, (runF first (es.take 40)).2), 140)) := Lib.hid rfl
      obtain ⟨n, hn⟩ : ∃ n, n = (runF first (es.take 40)).2 := ⟨_, rfl⟩
      obtain ⟨M, hM⟩ : ∃ M, M = (runF first (es.take 40)).1 := ⟨_, rfl⟩
      have hnle : n ≤ es.length := by have := runF_le first (es.take 40); simp at this; omega
      have hnle2 : n ≤ 40 := by have := runF_le first (es.take 40); simp at this; omega
      rw [← hn, ← hM] at hr
      rw [← hn] at h2
      rw [← hM] at h3
      have k5 := h2.cell
      obtain ⟨c0, c1, c2, c3, f0, f1, f2, f3, lt2⟩ := ln_cells (l := zero) h1
      obtain ⟨d0, d1, d2, d3, _, _, _, _, lt3⟩ := ln_cells (l := M) h3
      have H1 := Lib.hid h1
      have H4 := Lib.hid h4
      clear h1 h2 h3 h4 hI b2 b5 b6 bl hH hn hM
      by_cases hlt : n < es.length
      · have HR := Lib.hid (show runR es = ((zero, n), 140) by rw [hr.out, if_neg (by omega)])
        gi_wp2_with fail
        gi_region
        all_goals
          gi_wp2_with fail
          obtain ⟨s1, s2⟩ := set4 (.int .i64 0) (.int .i64 0) (.int .i64 0) (.int .i64 0) (p := w.heap.size) H1.out
          obtain ⟨X, hX⟩ : ∃ X, X = ((((W.setCell ⟨w.heap.size, 0, none⟩ (.int .i64 0)).setCell ⟨w.heap.size, 1, none⟩ (.int .i64 0)).setCell ⟨w.heap.size, 2, none⟩ (.int .i64 0)).setCell ⟨w.heap.size, 3, none⟩ (.int .i64 0)) := ⟨_, rfl⟩
          rw [← hX] at s1 s2 ⊢
          clear hX
          have t1 : X.drew.heap[w.heap.size]? = some (.cells #[.int .i64 0, .int .i64 0, .int .i64 0, .int .i64 0] 26) := s1
          have tK : X.drew.heap[D]? = some (.deferred (some [])) := s2.keeps hK (by omega)
          have tB : Below w.heap.size w X.drew := (H4.out.trans (s2.below (by intro k hk; omega) H4.out.size)).drew
          have e0 : (X.drew.putObj D (.deferred none)).heap[w.heap.size]? = some (.cells #[.int .i64 0, .int .i64 0, .int .i64 0, .int .i64 0] 26) := (World.putObj_heap_other (by omega)).trans t1
          obtain ⟨x0, x1, x2, x3, _⟩ := ln_cells (l := ⟨0, 0, 0, 0⟩) e0
          dsimp only at x0 x1 x2 x3
          have hend : Below w.heap.size w (X.drew.putObj D (.deferred none)) := tB.trans ((Ext.putObj (fun k => w.heap.size ≤ k) _ _ _ (by omega)).below (by intros; omega) tB.size)
          refine ⟨by simp; try omega, .inl ⟨_, _, rfl, run_takeDeferred tK, ?_⟩⟩
          exact ⟨.tuple #[.agg #[.int .i64 0, .int .i64 0, .int .i64 0, .int .i64 0], .int .i64 n, .int .i64 140], by simp [results, Try.results8, go_sem, x0, x1, x2, x3], by rw [HR.out]; rfl, hend⟩
      · obtain rfl : n = es.length := by omega
        have HR := Lib.hid (show runR es = ((M, es.length), 0) by rw [hr.out, if_pos rfl])
        gi_wp2_with fail
        gi_region
        all_goals
          gi_wp2_with fail
          obtain ⟨s1, s2⟩ := set4 (.int .i64 M.s) (.int .i64 M.h) (.int .i64 M.e) (.int .i64 M.t) (p := w.heap.size) H1.out
          obtain ⟨X, hX⟩ : ∃ X, X = ((((W.setCell ⟨w.heap.size, 0, none⟩ (.int .i64 M.s)).setCell ⟨w.heap.size, 1, none⟩ (.int .i64 M.h)).setCell ⟨w.heap.size, 2, none⟩ (.int .i64 M.e)).setCell ⟨w.heap.size, 3, none⟩ (.int .i64 M.t)) := ⟨_, rfl⟩
          rw [← hX] at s1 s2 ⊢
          clear hX
          have t1 : X.drew.heap[w.heap.size]? = some (.cells #[.int .i64 M.s, .int .i64 M.h, .int .i64 M.e, .int .i64 M.t] 26) := s1
          have tK : X.drew.heap[D]? = some (.deferred (some [])) := s2.keeps hK (by omega)
          have tB : Below w.heap.size w X.drew := (H4.out.trans (s2.below (by intro k hk; omega) H4.out.size)).drew
          have e0 : (X.drew.putObj D (.deferred none)).heap[w.heap.size]? = some (.cells #[.int .i64 M.s, .int .i64 M.h, .int .i64 M.e, .int .i64 M.t] 26) := (World.putObj_heap_other (by omega)).trans t1
          obtain ⟨x0, x1, x2, x3, _⟩ := ln_cells (l := ⟨M.s, M.h, M.e, M.t⟩) e0
          dsimp only at x0 x1 x2 x3
          have hend : Below w.heap.size w (X.drew.putObj D (.deferred none)) := tB.trans ((Ext.putObj (fun k => w.heap.size ≤ k) _ _ _ (by omega)).below (by intros; omega) tB.size)
          refine ⟨by simp; try omega, .inl ⟨_, _, rfl, run_takeDeferred tK, ?_⟩⟩
          exact ⟨.tuple #[.agg #[.int .i64 M.s, .int .i64 M.h, .int .i64 M.e, .int .i64 M.t], .int .i64 es.length, .int .i64 0], by simp [results, Try.results8, go_sem, x0, x1, x2, x3], by rw [HR.out]; rfl, hend⟩
  · gi_wp2_with fail
    all_goals (first | (exfalso; omega) | skip)
    refine ((callsIn_wide (n := 0)).2 (llines_any A 40 c _)).mono ?_
    rintro e w' ⟨rfl, rfl⟩
    gi_wp2_with fail
    obtain ⟨w0, hw0⟩ : ∃ w0, w0 = (((w.alloc (.cells (lnc zero) 26)).alloc (.cells #[.int .i64 0] 3)).alloc (.cells (lnc zero) 26)).alloc (.cells #[.slice A 40 c] 24) := ⟨_, rfl⟩
    have hw0' := hw0
    dsimp only [lnc, zero] at hw0'
    rw [← hw0']
    have hsz : w0.heap.size = w.heap.size + 4 := by rw [hw0]; simp
    have b2 : w0.heap[w.heap.size]? = some (.cells (lnc zero) 26) := by rw [hw0]; exact oldcell _ (oldcell _ (oldcell _ (newcell _ _)))
    have b5 : Boxed w0 (w.heap.size + 1) 3 (.int .i64 0) := by
      rw [hw0]; refine oldcell _ (oldcell _ ?_); have := newcell (w.alloc (.cells (lnc zero) 26)) (.cells #[.int .i64 0] 3); simpa using this
    have b6 : w0.heap[w.heap.size + 2]? = some (.cells (lnc zero) 26) := by
      rw [hw0]; refine oldcell _ ?_; have := newcell ((w.alloc (.cells (lnc zero) 26)).alloc (.cells #[.int .i64 0] 3)) (.cells (lnc zero) 26); simpa using this
    have bl : Boxed w0 (w.heap.size + 3) 24 (.slice A 40 c) := by
      rw [hw0]; have := newcell (((w.alloc (.cells (lnc zero) 26)).alloc (.cells #[.int .i64 0] 3)).alloc (.cells (lnc zero) 26)) (.cells #[.slice A 40 c] 24); rw [show (((w.alloc (.cells (lnc zero) 26)).alloc (.cells #[.int .i64 0] 3)).alloc (.cells (lnc zero) 26)).heap.size = w.heap.size + 3 by simp] at this; exact this
    have hbel0 : Below w.heap.size w w0 := by
      rw [hw0]; exact below_then (below_new3 _ _ _ _) (below_new _ _)
    have hH : HoldsG evc 3 w0 w.heap.size (.slice A 40 c) (es.take 40) := by
      refine ⟨A, c, by rw [HM.out], by rw [HM.out]; omega, by unfold maxLen; omega, ?_⟩
      rw [HM.out]
      exact span_pre' evc_len (SP.out.below hbel0 (Nat.le_refl _)) (by omega) HM.out
    clear hw0 hw0'
    have hI : ∀ (pre : List (Int × Ln)) (X Y : World), (X.heap[w.heap.size]? = some (.cells (lnc zero) 26) ∧ Boxed X (w.heap.size + 1) 3 (.int .i64 (runAcc pre).1) ∧ X.heap[w.heap.size + 2]? = some (.cells (lnc (runAcc pre).2) 26) ∧ Below w.heap.size w X) →
        Ext (sideP (protT 26) (fun _ => False) w0.heap.size X) X Y →
        (Y.heap[w.heap.size]? = some (.cells (lnc zero) 26) ∧ Boxed Y (w.heap.size + 1) 3 (.int .i64 (runAcc pre).1) ∧ Y.heap[w.heap.size + 2]? = some (.cells (lnc (runAcc pre).2) 26) ∧ Below w.heap.size w Y) := by
      rintro pre X Y ⟨h1, h2, h3, h4⟩ hx
      exact ⟨cells_sideP h1 hx (fun h => h) (.inr (by omega)), boxed_sideP h2 hx (fun h => h) (.inr (by omega)), cells_sideP h3 hx (fun h => h) (.inr (by omega)), below_sideP h4 hx (fun _ h => h.elim) (by omega) (Nat.le_refl _)⟩
    refine wpIn_rangeIt2 (gf := 47) (lb := #[.pointer (some ⟨w.heap.size + 3, 0, none⟩)]) rfl (enters_of Try.func47 (by kernel_rfl) rfl) (encs := encL) (xs := linesL (es.take 40))
      (mine := fun _ => False) (needs := fun k => k < w.heap.size ∨ k = w.heap.size + 3) (prot := protT 26) protT_cells
      (by intro k hk; exact hk.elim) (by intro k hk; omega)
      (fun W1 hx => lines_iter (es.take 40) _ w.heap.size _ W1 (by omega) ((hx.block _ (by omega)).trans bl) (hH.keep (fun k hk => hx.block k (by omega)))) (fun _ => rfl)
      (fun pre W => W.heap[w.heap.size]? = some (.cells (lnc zero) 26) ∧ Boxed W (w.heap.size + 1) 3 (.int .i64 (runAcc pre).1) ∧ W.heap[w.heap.size + 2]? = some (.cells (lnc (runAcc pre).2) 26) ∧ Below w.heap.size w W)
      (fun _ _ _ => False)
      hI (fun _ _ _ _ h _ => h) ⟨b2, b5, b6, hbel0⟩ ?roundB ?doneB (fun _ _ _ _ _ _ _ h => h.elim)
    case roundB =>
      rintro l pre ⟨i, M⟩ post W hxs hi0 hlt
      have hbd := linesL_bd hxs (by simp; omega)
      dsimp only at hbd
      dsimp only [encL, lnA]
      gi_wp2_with fail
      have hk1 : Below W.heap.size W (W.alloc (.cells #[.int .i64 M.s, .int .i64 M.h, .int .i64 M.e, .int .i64 M.t] 26)) := below_new _ _
      have hr1 : (W.alloc (.cells #[.int .i64 M.s, .int .i64 M.h, .int .i64 M.e, .int .i64 M.t] 26)).heap[W.heap.size]? = some (.cells #[.int .i64 M.s, .int .i64 M.h, .int .i64 M.e, .int .i64 M.t] 26) := newcell _ _
      refine ⟨keeps_belowF hk1, fun k hk => hk1.block k (by omega), KeepsP.below hk1, fun W₂ hx => ?_⟩
      have hi1 := hI _ _ _ hi0 (Ext.of_below hk1 (fun k h1 h2 => absurd h1 (by omega)))
      obtain ⟨h1, h2, h3, h4⟩ := hI _ _ _ hi1 (side_of hx)
      have hr2 := cells_side hr1 hx (fun h => h)
      obtain ⟨d0, d1, d2, d3, _, _, _, _, lt1⟩ := ln_cells hr2
      obtain ⟨c0, c1, c2, c3, f0, f1, f2, f3, lt2⟩ := ln_cells (l := (runAcc pre).2) h3
      have k5 := h2.cell
      have f5 := h2.frozen
      have si : IntKind.i64.wrap (i + 1) = i + 1 := IntWalk.i64_in _ (by omega)
      have ne1 : W.heap.size ≠ w.heap.size + 1 := by omega
      have ne2 : W.heap.size ≠ w.heap.size + 2 := by omega
      have ne3 : w.heap.size + 1 ≠ W.heap.size := by omega
      have ne4 : w.heap.size + 2 ≠ W.heap.size := by omega
      have H1 := Lib.hid h1
      have H2 := Lib.hid h2
      have H3 := Lib.hid h3
      have H4 := Lib.hid h4
      clear hr1 hr2 hi0 hi1 hx hk1 b2 b5 b6 bl hH hI hxs h1 h2 h3 h4
      gi_upto_region 5 with fail
      gi_region
      all_goals
        gi_wp2_with fail
        obtain ⟨r1, r2, r3⟩ := two_sets5 (v := .int .i64 (i + 1)) (a := .int .i64 M.s) (b := .int .i64 M.h) (c := .int .i64 M.e) (d := .int .i64 M.t) H2.out (q := w.heap.size + 2) H3.out (by omega)
        refine ⟨⟨r3.size, fun k o hk ho _ => r3.keeps ho (by omega)⟩, fun k hk => r3.block k (by omega) (by omega), fun k o hk _ ho => r3.keeps ho (by omega), ?_⟩
        simp only [runAcc_snoc]
        exact ⟨r3.keeps H1.out (by omega), r1, r2, H4.out.trans (r3.below (by omega) H4.out.size)⟩
    case doneB =>
      rintro D W ⟨h1, h2, h3, h4⟩ hD hK
      rw [runAcc_lines] at h2 h3
      dsimp only at h2 h3
      have hr : Hid (runR es = if (runF first (es.take 40)).2 = es.length then (((runF first (es.take 40)).1, es.length), 0) else ((zero, (runF first (es.take 40)).2), 140)) := Lib.hid rfl
      obtain ⟨n, hn⟩ : ∃ n, n = (runF first (es.take 40)).2 := ⟨_, rfl⟩
      obtain ⟨M, hM⟩ : ∃ M, M = (runF first (es.take 40)).1 := ⟨_, rfl⟩
      have hnle : n ≤ es.length := by have := runF_le first (es.take 40); simp at this; omega
      have hnle2 : n ≤ 40 := by have := runF_le first (es.take 40); simp at this; omega
      rw [← hn, ← hM] at hr
      rw [← hn] at h2
      rw [← hM] at h3
      have k5 := h2.cell
      obtain ⟨c0, c1, c2, c3, f0, f1, f2, f3, lt2⟩ := ln_cells (l := zero) h1
      obtain ⟨d0, d1, d2, d3, _, _, _, _, lt3⟩ := ln_cells (l := M) h3
      have H1 := Lib.hid h1
      have H4 := Lib.hid h4
      clear h1 h2 h3 h4 hI b2 b5 b6 bl hH hn hM
      by_cases hlt : n < es.length
      · have HR := Lib.hid (show runR es = ((zero, n), 140) by rw [hr.out, if_neg (by omega)])
        gi_wp2_with fail
        gi_region
        all_goals
          gi_wp2_with fail
          obtain ⟨s1, s2⟩ := set4 (.int .i64 0) (.int .i64 0) (.int .i64 0) (.int .i64 0) (p := w.heap.size) H1.out
          obtain ⟨X, hX⟩ : ∃ X, X = ((((W.setCell ⟨w.heap.size, 0, none⟩ (.int .i64 0)).setCell ⟨w.heap.size, 1, none⟩ (.int .i64 0)).setCell ⟨w.heap.size, 2, none⟩ (.int .i64 0)).setCell ⟨w.heap.size, 3, none⟩ (.int .i64 0)) := ⟨_, rfl⟩
          rw [← hX] at s1 s2 ⊢
          clear hX
          have t1 : X.drew.heap[w.heap.size]? = some (.cells #[.int .i64 0, .int .i64 0, .int .i64 0, .int .i64 0] 26) := s1
          have tK : X.drew.heap[D]? = some (.deferred (some [])) := s2.keeps hK (by omega)
          have tB : Below w.heap.size w X.drew := (H4.out.trans (s2.below (by intro k hk; omega) H4.out.size)).drew
          have e0 : (X.drew.putObj D (.deferred none)).heap[w.heap.size]? = some (.cells #[.int .i64 0, .int .i64 0, .int .i64 0, .int .i64 0] 26) := (World.putObj_heap_other (by omega)).trans t1
          obtain ⟨x0, x1, x2, x3, _⟩ := ln_cells (l := ⟨0, 0, 0, 0⟩) e0
          dsimp only at x0 x1 x2 x3
          have hend : Below w.heap.size w (X.drew.putObj D (.deferred none)) := tB.trans ((Ext.putObj (fun k => w.heap.size ≤ k) _ _ _ (by omega)).below (by intros; omega) tB.size)
          refine ⟨by simp; try omega, .inl ⟨_, _, rfl, run_takeDeferred tK, ?_⟩⟩
          exact ⟨.tuple #[.agg #[.int .i64 0, .int .i64 0, .int .i64 0, .int .i64 0], .int .i64 n, .int .i64 140], by simp [results, Try.results8, go_sem, x0, x1, x2, x3], by rw [HR.out]; rfl, hend⟩
      · exfalso; omega
/-- what Run returns -/
theorem lrun_any (v : Value) (es : List Ev) (w : World) (hv : HoldsG evc 3 w w.heap.size v es) : Calls Try.prog 8 #[v] w (RunPost es w) := by
  obtain ⟨A, c, rfl, h0, h1, h2⟩ := hv
  rcases Nat.le_total es.length 40 with h | h
  · exact lrun_m A c es.length es w (by simp [Nat.min_eq_right h]) (.inl ⟨h, rfl⟩) h0 h1 h2
  · by_cases h3 : es.length ≤ 40
    · exact lrun_m A c es.length es w (by simp [Nat.min_eq_right h3]) (.inl ⟨h3, rfl⟩) h0 h1 h2
    · exact lrun_m A c 40 es w (by simp [Nat.min_eq_left h]) (.inr ⟨h3, rfl⟩) h0 h1 h2
end Go.Proofs.Ytjhakonpnopcnaa
