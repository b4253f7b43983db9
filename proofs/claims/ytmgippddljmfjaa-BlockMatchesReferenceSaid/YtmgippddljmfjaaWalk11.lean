/-
  block.Free.
-/
import Derived.Test.YtmgippddljmfjaaWalk10
namespace Go.Proofs.Ytmgippddljmfjaa
open Go Go.RowKit Go.Dial Go.Dial.Blk
attribute [local go_sem] Oper.semAt_some

/-- a piece that nobody holds, and that reaches beyond n -/
def freeP (n : Int) (p : Int × Int × Int × Int) : Bool := decide (p.2.2.1 = -1) && decide (n < p.2.1)
def freeV (l : List B3) (n : Int) : Int × Bool := if validB l = true ∧ 0 ≤ n ∧ n ≤ 99999999 then (match (pieces l [] 0).find? (freeP n) with | some p => (max n p.1, true) | none => (0, false)) else (0, false)
theorem cells_ret {W : World} {tmps : Array Value} {p q : Nat} {u : Int} {v : Bool} (hs : tmps.getD 4 undef = .pointer (some ⟨p, 0, none⟩)) (ht : tmps.getD 5 undef = .pointer (some ⟨q, 0, none⟩))
    (hu : W.cell? ⟨p, 0, none⟩ = some (.int .i64 u)) (hv : W.cell? ⟨q, 0, none⟩ = some (.bool v)) : (results Try.f32 tmps).run Try.prog W = .ok (.tuple #[.int .i64 u, .bool v]) W := by
  rw [Array.getD_eq_getD_getElem?] at hs ht
  simp [results, Try.results32, hs, ht, go_sem, hu, hv]
def FI (n : Int) (wo : World) (pre : List (Int × Int × Int × Int)) (X : World) : Prop := Boxed X wo.heap.size 3 (.int .i64 n) ∧ Boxed X (wo.heap.size + 1) 3 (.int .i64 0) ∧ Boxed X (wo.heap.size + 2) 4 (.bool false) ∧ Below wo.heap.size wo X ∧ ∀ p ∈ pre, freeP n p = false
def FX (n : Int) (wo : World) (c : Code) (pre : List (Int × Int × Int × Int)) (W : World) : Prop := c = .ret ∧ ∃ init p, pre = init ++ [p] ∧ freeP n p = true ∧ (∀ p ∈ init, freeP n p = false) ∧ Boxed W (wo.heap.size + 1) 3 (.int .i64 (max n p.1)) ∧ Boxed W (wo.heap.size + 2) 4 (.bool true) ∧ Below wo.heap.size wo W
theorem free_step {n f t x y m : Int} {wo W : World} {pre : List (Int × Int × Int × Int)} (hm : max n f = m) (hp : freeP n (f, t, x, y) = true) (h2 : Boxed W (wo.heap.size + 1) 3 (.int .i64 0)) (h3 : Boxed W (wo.heap.size + 2) 4 (.bool false)) (h4 : Below wo.heap.size wo W) (h5 : ∀ p ∈ pre, freeP n p = false) :
    FX n wo .ret (pre ++ [(f, t, x, y)]) ((W.setCell ⟨wo.heap.size + 1, 0, none⟩ (.int .i64 m)).setCell ⟨wo.heap.size + 1 + 1, 0, none⟩ (.bool true)) :=
  ⟨rfl, pre, (f, t, x, y), rfl, hp, h5, by rw [hm]; exact (h2.set _).other (by omega) _, (h3.other (by omega) _).set _, (h4.setCell (by simp) _).setCell (by simp only; omega) _⟩
theorem free_keep {n : Int} {p : Int × Int × Int × Int} {wo W : World} {pre : List (Int × Int × Int × Int)} (hp : freeP n p = false) (h : FI n wo pre W) : FI n wo (pre ++ [p]) W :=
  ⟨h.1, h.2.1, h.2.2.1, h.2.2.2.1, fun q hq => by
    rcases List.mem_append.1 hq with hq | hq
    · exact h.2.2.2.2 q hq
    · simp at hq; subst hq; exact hp⟩
theorem find_none {n : Int} {ps : List (Int × Int × Int × Int)} (h : ∀ p ∈ ps, freeP n p = false) : ps.find? (freeP n) = none := List.find?_eq_none.2 (fun p hp => by rw [h p hp]; decide)
theorem find_some {n : Int} {pre post : List (Int × Int × Int × Int)} {p : Int × Int × Int × Int} (h : ∀ p ∈ pre, freeP n p = false) (hp : freeP n p = true) : (pre ++ p :: post).find? (freeP n) = some p := by
  rw [List.find?_append, find_none h]; simp [List.find?, hp]
set_option maxRecDepth 100000 in
set_option maxHeartbeats 1600000 in
theorem free_yes (v : Value) (bs : List B3) (n : Int) (wo : World) (hv : HoldsB wo wo.heap.size v bs) (t0 : validB bs = true) (hn0 : 0 ≤ n) (hn1 : n ≤ 99999999) :
    Calls Try.prog 32 #[v, .int .i64 n] wo fun e w' => e = .returned (.tuple #[.int .i64 (freeV bs n).1, .bool (freeV bs n).2]) ∧ Below wo.heap.size wo w' := by
  have HV := Lib.hid (show freeV bs n = _ from if_pos ⟨t0, hn0, hn1⟩)
  refine (callsIn_wide (n := 0)).1 (callsIn_of_wp_marks Try.func32 rfl trivial ?_)
  simp only [Try.ntmps32, List.size_toArray, List.length_cons, List.length_nil, Nat.reduceAdd, Nat.reduceSub, Array.replicate_succ, Array.replicate_zero, List.push_toArray, List.append_toArray, List.nil_append, List.cons_append]
  gi_wp2_with fail
  refine ((callsIn_wide (n := 0)).2 (validH_any v bs _ (hv.later (below_trans (below_trans (below_al _ _) (below_al _ _)) (below_al _ _))))).mono ?_
  rintro e w ⟨rfl, HB⟩
  rw [t0]
  have hB0 : Below wo.heap.size wo w := below_trans (below_trans (below_trans (below_al _ _) (below_al _ _)) (below_al _ _)) HB
  have n0' : Boxed w wo.heap.size 3 (.int .i64 n) := (HB.block _ (by simp; omega)).trans (alloc_old _ (alloc_old _ (new_heap _ _)))
  have r0' : Boxed w (wo.heap.size + 1) 3 (.int .i64 0) := (HB.block _ (by simp)).trans (alloc_old _ (by have := new_heap (wo.alloc (.cells #[.int .i64 n] 3)) (.cells #[.int .i64 0] 3); rwa [World.size_alloc] at this))
  have r1' : Boxed w (wo.heap.size + 2) 4 (.bool false) := (HB.block _ (by simp)).trans (by have := new_heap ((wo.alloc (.cells #[.int .i64 n] 3)).alloc (.cells #[.int .i64 0] 3)) (.cells #[.bool false] 4); simpa using this)
  have hzw : wo.heap.size + 3 ≤ w.heap.size := by have := HB.size; simpa using this
  have hvw := hv.below hB0
  have cn := n0'.cell
  clear HB
  gi_wp2_with fail
  obtain ⟨A0, c0, rfl, hl0, hc0, sp0⟩ := hvw
  refine ((callsIn_wide (n := 0)).2 (pieces_any A0 none bs.length 0 c0 0 _)).mono ?_
  rintro e w' ⟨rfl, rfl⟩
  clear cn
  gi_wp2_with fail
  obtain ⟨w0, hw0⟩ : ∃ w0, w0 = (((w.alloc (Obj.cells #[Value.slice A0 bs.length c0] 24)).alloc (Obj.cells #[Value.slice none 0 0] 24)).alloc (Obj.cells #[Value.func (Fn.func 66) #[] #[]] 78)) := ⟨_, rfl⟩
  rw [← hw0]
  have hsz : w0.heap.size = w.heap.size + 3 := by rw [hw0]; simp
  have b2 : Boxed w0 w.heap.size 24 (.slice A0 bs.length c0) := by
    rw [hw0]; exact ((Boxed.new w 24 _).alloc _).alloc _
  have b3 : Boxed w0 (w.heap.size + 1) 24 (.slice none 0 0) := by
    rw [hw0]; refine Boxed.alloc ?_ _; have := Boxed.new (w.alloc (.cells #[.slice A0 bs.length c0] 24)) 24 (.slice none 0 0); simpa using this
  have b4 : Boxed w0 (w.heap.size + 2) 78 (.func (.func 66) #[] #[]) := by
    rw [hw0]; have := Boxed.new ((w.alloc (.cells #[.slice A0 bs.length c0] 24)).alloc (.cells #[.slice none 0 0] 24)) 78 (.func (.func 66) #[] #[]); simpa using this
  have hbel0 : Below w.heap.size w w0 := by
    rw [hw0]; exact (((Below.refl _ w).alloc (Nat.le_refl _) _).alloc (by simp) _).alloc (by simp; omega) _
  have h0A : HoldsB w0 wo.heap.size (.slice A0 bs.length c0) bs := ⟨_, _, rfl, hl0, hc0, sp0.below hbel0 (by omega)⟩
  have n0 : Boxed w0 wo.heap.size 3 (.int .i64 n) := (hbel0.block _ (by omega)).trans n0'
  have r0 : Boxed w0 (wo.heap.size + 1) 3 (.int .i64 0) := (hbel0.block _ (by omega)).trans r0'
  have r1 : Boxed w0 (wo.heap.size + 2) 4 (.bool false) := (hbel0.block _ (by omega)).trans r1'
  have hB1 : Below wo.heap.size wo w0 := hB0.trans (hbel0.mono (by omega))
  have ha : Some bs := (validB_iff.1 t0).2.some
  clear hw0 n0' r0' r1' hbel0 sp0 hB0 t0 hv
  have hI : ∀ (pre : List (Int × Int × Int × Int)) (X Y : World), FI n wo pre X →
      Ext (sideOf (fun k => k = w.heap.size ∨ k = w.heap.size + 1) w0.heap.size X) X Y →
      FI n wo pre Y := by
    rintro pre X Y ⟨h1, h2, h3, h4, h5⟩ hx
    exact ⟨boxed_side h1 hx (by omega), boxed_side h2 hx (by omega), boxed_side h3 hx (by omega), below_side h4 hx (by intro k hk; omega) (by omega) (Nat.le_refl _), h5⟩
  refine wpIn_rangeIt (gf := 67) (lb := #[.pointer (some ⟨w.heap.size + 2, 0, none⟩), .pointer (some ⟨w.heap.size, 0, none⟩), .pointer (some ⟨w.heap.size + 1, 0, none⟩)]) rfl (enters_of Try.func67 (by kernel_rfl) rfl) (encs := encP) (xs := pieces bs [] 0)
    (mine := fun k => k = w.heap.size ∨ k = w.heap.size + 1) (needs := fun k => k < wo.heap.size ∨ k = w.heap.size ∨ k = w.heap.size + 1 ∨ k = w.heap.size + 2)
    (by intro k hk; omega) (by intro k hk; omega)
    (fun W1 hx => pieces_iter bs [] _ _ _ wo.heap.size W1 ha ⟨0, 0, trivial⟩ _ _ (by omega) (by omega) (by omega) (by omega) (by omega) (by omega) ((hx.block _ (by omega)).trans b4) ((hx.block _ (by omega)).trans b2) ((hx.block _ (by omega)).trans b3)
      (h0A.keep (fun k hk => hx.block k (by omega))) (holds_nil _ _)) (fun _ => rfl)
    (FI n wo) (FX n wo)
    hI ?ix ⟨n0, r0, r1, hB1, by simp⟩ ?round ?done ?stop
  case ix =>
    rintro c s X Y ⟨rfl, init, p, h1, h2, h3, h4, h5, h6⟩ hx
    exact ⟨rfl, init, p, h1, h2, h3, boxed_side h4 hx (by omega), boxed_side h5 hx (by omega), below_side h6 hx (by intro k hk; omega) (by omega) (Nat.le_refl _)⟩
  case round =>
    rintro l pre ⟨f, t, x, y⟩ post W hxs hi0 hlt
    dsimp only [encP]
    gi_wp2_with fail
    have hk1 : Below W.heap.size W ((W.alloc (Obj.cells #[Value.int IntKind.i64 f, Value.int IntKind.i64 t] 26)).alloc (Obj.cells #[Value.int IntKind.i64 x, Value.int IntKind.i64 y] 35)) := ((Below.refl _ W).alloc (Nat.le_refl _) _).alloc (by simp) _
    have hr1 : ((W.alloc (Obj.cells #[Value.int IntKind.i64 f, Value.int IntKind.i64 t] 26)).alloc (Obj.cells #[Value.int IntKind.i64 x, Value.int IntKind.i64 y] 35)).heap[W.heap.size]? = some (.cells #[.int .i64 f, .int .i64 t] 26) := alloc_old _ (new_heap _ _)
    have hr2 : ((W.alloc (Obj.cells #[Value.int IntKind.i64 f, Value.int IntKind.i64 t] 26)).alloc (Obj.cells #[Value.int IntKind.i64 x, Value.int IntKind.i64 y] 35)).heap[W.heap.size + 1]? = some (.cells #[.int .i64 x, .int .i64 y] 35) := by
      have := new_heap (W.alloc (Obj.cells #[Value.int IntKind.i64 f, Value.int IntKind.i64 t] 26)) (Obj.cells #[Value.int IntKind.i64 x, Value.int IntKind.i64 y] 35); rwa [World.size_alloc] at this
    refine ⟨keeps_below hk1, fun k hk => hk1.block k (by omega), fun W₂ hx => ?_⟩
    have hi1 := hI _ _ _ hi0 (Ext.of_below hk1 (fun k h1 h2 => absurd h1 (by omega)))
    have hi2 := hI _ _ _ hi1 hx
    have hr3 := hx.keeps hr1 (fun hs => by
      rcases hs with hs | ⟨_, o, ho, hc⟩
      · omega
      · rw [hr1] at ho; cases ho; cases hc)
    have hr4 := hx.keeps hr2 (fun hs => by
      rcases hs with hs | ⟨_, o, ho, hc⟩
      · omega
      · rw [hr2] at ho; cases ho; cases hc)
    clear hr1 hr2 hk1 hi0 hi1 hx b2 b3 b4 h0A hI n0 r0 r1 hB1
    have x0 := blk_cell (cs := [.int .i64 x, .int .i64 y]) hr4 (i := 0) rfl
    have hq0 := blk_cell (cs := [.int .i64 f, .int .i64 t]) hr3 (i := 0) rfl
    have hq1 := blk_cell (cs := [.int .i64 f, .int .i64 t]) hr3 (i := 1) rfl
    have HI2 := Lib.hid hi2
    obtain ⟨h1, h2, h3, h4, h5⟩ := hi2
    have k1 := h1.cell
    have k2 := h2.cell
    have k3 := h3.cell
    have f2 := h2.frozen
    have f3 := h3.frozen
    have HA := Lib.hid h1
    have HB := Lib.hid h2
    have HC := Lib.hid h3
    have H5 := Lib.hid h5
    clear hr3 hr4 hxs h1 h2 h3 h5
    by_cases hx1 : x = -1
    · have u1 : (x == -1) = true := by rw [beq_iff_eq]; exact hx1
      by_cases ht : n < t
      · have HP : Hid (freeP n (f, t, x, y) = true) := Lib.hid (by simp [freeP, hx1, ht])
        clear hx1
        gi_wp2_with fail
        all_goals exact ⟨((KeepsOthers.setCell _ _ _).trans (KeepsOthers.setCell _ _ _)).from _, free_step (by omega) HP.out HB.out HC.out h4 H5.out⟩
      · have HP : Hid (freeP n (f, t, x, y) = false) := Lib.hid (by simp [freeP, ht])
        clear hx1
        gi_wp2_with fail
        exact ⟨KeepsFrom.refl _ _, fun _ _ => rfl, free_keep HP.out HI2.out⟩
    · have u1 : (x == -1) = false := by rw [beq_eq_false_iff_ne]; exact hx1
      have HP : Hid (freeP n (f, t, x, y) = false) := Lib.hid (by simp [freeP, hx1])
      clear hx1
      gi_wp2_with fail
      exact ⟨KeepsFrom.refl _ _, fun _ _ => rfl, free_keep HP.out HI2.out⟩
  case done =>
    rintro D W ⟨h1, h2, h3, h4, h5⟩ hD hK
    have HV2 : Hid (freeV bs n = (0, false)) := Lib.hid (by rw [HV.out, find_none h5])
    have k2 := h2.cell
    have k3 := h3.cell
    have f2 := h2.frozen
    have f3 := h3.frozen
    have HB := Lib.hid h2
    have HC := Lib.hid h3
    clear h1 h2 h3 h5 hI
    gi_wp2_with fail
    have hK2 : ((W.setCell ⟨wo.heap.size + 1, 0, none⟩ (.int .i64 0)).setCell ⟨wo.heap.size + 1 + 1, 0, none⟩ (.bool false)).heap[D]? = some (.deferred (some [])) := by
      rw [Below.heap_setCell _ _ _ _ (by simp only; omega), Below.heap_setCell _ _ _ _ (by simp only; omega)]; exact hK
    refine ⟨by simp; try omega, .inl ⟨_, _, rfl, run_takeDeferred hK2, ?_⟩⟩
    refine ⟨_, cells_ret rfl rfl ((World.cell?_of_block (World.putObj_heap_other (by simp only; omega))).trans ((HB.out.set _).other (by omega) _).cell) ((World.cell?_of_block (World.putObj_heap_other (by simp only; omega))).trans ((HC.out.other (by omega) _).set _).cell), by rw [HV2.out], ?_⟩
    have h5 := (h4.setCell (p := ⟨wo.heap.size + 1, 0, none⟩) (by simp) (.int .i64 0)).setCell (p := ⟨wo.heap.size + 1 + 1, 0, none⟩) (by simp only; omega) (.bool false)
    exact h5.trans ((Ext.putObj (fun k => w0.heap.size ≤ k) _ _ _ hD).below (by intros; omega) (by have := h5.size; omega))
  case stop =>
    rintro D c pre ⟨f, t, x, y⟩ post W hxs ⟨rfl, init, p, h1, h2, h3, h4, h5, h6⟩ hD hK
    have HV2 : Hid (freeV bs n = (max n p.1, true)) := Lib.hid (by
      rw [HV.out, hxs]
      obtain ⟨e1, e2⟩ := List.append_inj' h1 rfl
      cases e2; subst e1
      rw [find_some h3 h2])
    have k2 := h4.cell
    have k3 := h5.cell
    have HB := Lib.hid h4
    have HC := Lib.hid h5
    clear h1 h2 h3 h4 h5 hI hxs
    gi_wp2_with fail
    refine ⟨by simp; try omega, .inl ⟨_, _, rfl, run_takeDeferred hK, ?_⟩⟩
    refine ⟨_, cells_ret rfl rfl ((World.cell?_of_block (World.putObj_heap_other (by simp only; omega))).trans HB.out.cell) ((World.cell?_of_block (World.putObj_heap_other (by simp only; omega))).trans HC.out.cell), by rw [HV2.out], ?_⟩
    exact h6.trans ((Ext.putObj (fun k => w0.heap.size ≤ k) _ _ _ hD).below (by intros; omega) (by have := h6.size; omega))

theorem free_no (v : Value) (bs : List B3) (n : Int) (wo : World) (hv : HoldsB wo wo.heap.size v bs) (hno : ¬ (validB bs = true ∧ 0 ≤ n ∧ n ≤ 99999999)) :
    Calls Try.prog 32 #[v, .int .i64 n] wo fun e w' => e = .returned (.tuple #[.int .i64 (freeV bs n).1, .bool (freeV bs n).2]) ∧ Below wo.heap.size wo w' := by
  have HV := Lib.hid (show freeV bs n = (0, false) from if_neg hno)
  have fin : Hid (∀ w, Below (((wo.alloc (.cells #[.int .i64 n] 3)).alloc (.cells #[.int .i64 0] 3)).alloc (.cells #[.bool false] 4)).heap.size (((wo.alloc (.cells #[.int .i64 n] 3)).alloc (.cells #[.int .i64 0] 3)).alloc (.cells #[.bool false] 4)) w →
      (Boxed w wo.heap.size 3 (.int .i64 n) ∧ Boxed w (wo.heap.size + 1) 3 (.int .i64 0) ∧ Boxed w (wo.heap.size + 1 + 1) 4 (.bool false)) ∧ Below wo.heap.size wo w) := Lib.hid fun w HB => by
    refine ⟨⟨(HB.block _ (by simp; omega)).trans (alloc_old _ (alloc_old _ (new_heap _ _))), (HB.block _ (by simp)).trans (alloc_old _ (by have := new_heap (wo.alloc (.cells #[.int .i64 n] 3)) (.cells #[.int .i64 0] 3); rwa [World.size_alloc] at this)), (HB.block _ (by simp)).trans (by have := new_heap ((wo.alloc (.cells #[.int .i64 n] 3)).alloc (.cells #[.int .i64 0] 3)) (.cells #[.bool false] 4); simpa using this)⟩, ?_⟩
    exact below_trans (below_trans (below_trans (below_al _ _) (below_al _ _)) (below_al _ _)) HB
  have go : ∀ w, Below (((wo.alloc (.cells #[.int .i64 n] 3)).alloc (.cells #[.int .i64 0] 3)).alloc (.cells #[.bool false] 4)).heap.size (((wo.alloc (.cells #[.int .i64 n] 3)).alloc (.cells #[.int .i64 0] 3)).alloc (.cells #[.bool false] 4)) w →
      ((w.setCell ⟨wo.heap.size + 1, 0, none⟩ (.int .i64 0)).setCell ⟨wo.heap.size + 1 + 1, 0, none⟩ (.bool false)).cell? ⟨wo.heap.size + 1, 0, none⟩ = some (.int .i64 0) ∧ ((w.setCell ⟨wo.heap.size + 1, 0, none⟩ (.int .i64 0)).setCell ⟨wo.heap.size + 1 + 1, 0, none⟩ (.bool false)).cell? ⟨wo.heap.size + 1 + 1, 0, none⟩ = some (.bool false) ∧ Below wo.heap.size wo ((w.setCell ⟨wo.heap.size + 1, 0, none⟩ (.int .i64 0)).setCell ⟨wo.heap.size + 1 + 1, 0, none⟩ (.bool false)) := fun w HB => by
    obtain ⟨⟨b0, b1, b2⟩, hb⟩ := fin.out w HB
    exact ⟨((b1.set _).other (by omega) _).cell, ((b2.other (by omega) _).set _).cell, (hb.setCell (by simp only; omega) _).setCell (by simp only; omega) _⟩
  have GO := Lib.hid go
  clear go
  by_cases t0 : validB bs = true
  · have hno2 : n < 0 ∨ (0 ≤ n ∧ 99999999 < n) := by
      rcases Int.lt_or_le n 0 with h | h
      · exact .inl h
      · refine .inr ⟨h, ?_⟩
        rcases Int.lt_or_le 99999999 n with h2 | h2
        · exact h2
        · exact absurd ⟨t0, h, h2⟩ hno
    clear hno
    rcases hno2 with h | ⟨h, h'⟩
    all_goals
      go_enter Try.func32, Try.ntmps32
      go_wp2_with fail
      refine (validH_any v bs _ (hv.later (below_trans (below_trans (below_al _ _) (below_al _ _)) (below_al _ _)))).mono ?_
      rintro e w ⟨rfl, HB⟩
      rw [t0]
      obtain ⟨⟨b0, b1, b2⟩, hb⟩ := fin.out w HB
      have k0 := b0.cell
      have k1 := b1.cell
      have k2 := b2.cell
      have f1 := b1.frozen
      have f2 := b2.frozen
      clear b0 b1 b2
      go_wp2_with fail
      obtain ⟨r0, r1, r2⟩ := GO.out w HB
      exact bodyPost_ret (cells_ret rfl rfl r0 r1) rfl ⟨by rw [HV.out], r2⟩
  · have u0 : validB bs = false := by simpa using t0
    clear t0 hno
    go_enter Try.func32, Try.ntmps32
    go_wp2_with fail
    refine (validH_any v bs _ (hv.later (below_trans (below_trans (below_al _ _) (below_al _ _)) (below_al _ _)))).mono ?_
    rintro e w ⟨rfl, HB⟩
    rw [u0]
    obtain ⟨⟨b0, b1, b2⟩, hb⟩ := fin.out w HB
    have k0 := b0.cell
    have k1 := b1.cell
    have k2 := b2.cell
    have f1 := b1.frozen
    have f2 := b2.frozen
    clear b0 b1 b2
    go_wp2_with fail
    obtain ⟨r0, r1, r2⟩ := GO.out w HB
    exact bodyPost_ret (cells_ret rfl rfl r0 r1) rfl ⟨by rw [HV.out], r2⟩
theorem free_any (v : Value) (bs : List B3) (n : Int) (wo : World) (hv : HoldsB wo wo.heap.size v bs) :
    Calls Try.prog 32 #[v, .int .i64 n] wo fun e w' => e = .returned (.tuple #[.int .i64 (freeV bs n).1, .bool (freeV bs n).2]) ∧ Below wo.heap.size wo w' := by
  by_cases h : validB bs = true ∧ 0 ≤ n ∧ n ≤ 99999999
  · exact free_yes v bs n wo hv h.1 h.2.1 h.2.2
  · exact free_no v bs n wo hv h
end Go.Proofs.Ytmgippddljmfjaa
