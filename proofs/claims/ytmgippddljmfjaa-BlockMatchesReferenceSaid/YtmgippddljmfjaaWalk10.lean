/-
  block.Differ.
-/
import Derived.Test.YtmgippddljmfjaaWalk9
namespace Go.Proofs.Ytmgippddljmfjaa
open Go Go.RowKit Go.Dial Go.Dial.Blk
attribute [local go_sem] Oper.semAt_some

/-- a range is a block of carrier 0 -/
def dcells (b : B3) : List Value := [.int .i64 b.f, .int .i64 b.t]
def dcs (l : List B3) : List Value := l.flatMap dcells
theorem dcs_len (l : List B3) : (dcs l).length = l.length * 2 := by
  induction l with
  | nil => rfl
  | cons b l ih => simp only [dcs, List.flatMap_cons, List.length_append, List.length_cons] at ih ⊢; simp [dcells, ih]; omega
theorem dcs_snoc (l : List B3) (b : B3) : dcs (l ++ [b]) = dcs l ++ dcells b := by simp [dcs]
/-- a slice value that holds ranges -/
def HoldsR (w : World) (B : Nat) (v : Value) (bs : List B3) : Prop := ∃ A c, v = .slice A bs.length c ∧ bs.length ≤ c ∧ c ≤ maxLen ∧ Span w B 2 A bs.length (dcs bs)
theorem HoldsR.keep {w w' : World} {B : Nat} {v : Value} {bs : List B3} (h : HoldsR w B v bs) (hk : ∀ k, k < B → w'.heap[k]? = w.heap[k]?) : HoldsR w' B v bs := by
  obtain ⟨A, c, rfl, h1, h2, h3⟩ := h
  exact ⟨A, c, rfl, h1, h2, h3.keep fun p hp => World.cell?_of_block (hk _ hp)⟩
theorem HoldsR.later {w w' : World} {v : Value} {bs : List B3} (h : HoldsR w w.heap.size v bs) (hb : Below w.heap.size w w') : HoldsR w' w'.heap.size v bs := by
  obtain ⟨A, c, rfl, h1, h2, h3⟩ := h
  exact ⟨A, c, rfl, h1, h2, (h3.below hb (Nat.le_refl _)).mono hb.size⟩
theorem holdsR_put {W : World} {B D : Nat} {v : Value} {bs : List B3} {o o' : Obj} (hK : W.heap[D]? = some o') (hc : o'.isCells = false) (h : HoldsR W B v bs) : HoldsR (W.putObj D o) B v bs := by
  obtain ⟨A, c, rfl, h1, h2, h3⟩ := h
  exact ⟨A, c, rfl, h1, h2, span_put hK hc h3⟩
theorem holdsR_nil (W : World) (B : Nat) : HoldsR W B (.slice none 0 0) [] := ⟨none, 0, rfl, Nat.le_refl _, Nat.zero_le _, Span.nil _ _ _ _⟩
theorem info26 : (Try.prog.info? 26).map (fun i => (i.zero, i.size, i.bytes)) = some (some (.agg #[.int .i64 0, .int .i64 0]), 2, 16) := by kernel_rfl
theorem news_rng (W : World) (b : B3) : ∀ j u, (dcells b)[j]? = some u → (W.alloc (.cells #[.int .i64 b.f, .int .i64 b.t] 26)).cell? ((⟨W.heap.size, 0, none⟩ : Addr).add j) = some u :=
  World.news_of_block (cs := #[.int .i64 b.f, .int .i64 b.t]) (new_heap _ _)
/-- the last range of a row -/
theorem last_rng {W : World} {rb : Nat} {v : Value} {l : List B3} {y : B3} (h : W.ownsRow rb 26 2 v (l ++ [y]).length (dcs (l ++ [y]))) :
    ∃ g cap, v = .slice (some ⟨g, 0, none⟩) (l.length + 1) cap ∧ rb ≤ g ∧ g < W.heap.size ∧ l.length + 1 ≤ cap ∧ cap ≤ maxLen ∧ W.cell? ⟨g, l.length * 2 + 1, none⟩ = some (.int .i64 y.t) ∧ W.frozen? ⟨g, l.length * 2 + 1, none⟩ = false ∧
      ∀ u c : Int, (W.setCell ⟨g, l.length * 2 + 1, none⟩ (.int .i64 u)).ownsRow rb 26 2 v (l ++ [(⟨y.f, u, c⟩ : B3)]).length (dcs (l ++ [⟨y.f, u, c⟩])) ∧ W.grownBy (W.setCell ⟨g, l.length * 2 + 1, none⟩ (.int .i64 u)) (some g) := by
  rw [List.length_append, List.length_singleton] at h
  have hlt : ∃ g cap, v = .slice (some ⟨g, 0, none⟩) (l.length + 1) cap ∧ rb ≤ g ∧ g < W.heap.size ∧ l.length + 1 ≤ cap ∧ cap ≤ maxLen := by
    rcases h.2 with ⟨_, hn⟩ | ⟨g, cap, cur, rfl, hb, hg, h1, h2, _⟩
    · omega
    · exact ⟨g, cap, rfl, hb, (Array.getElem?_eq_some_iff.1 hg).1, h1, h2⟩
  obtain ⟨g, cap, rfl, h1, h2, h3, h4⟩ := hlt
  have hb := dcs_len l
  have e1 : (dcs (l ++ [y]))[l.length * 2 + 1]? = some (.int .i64 y.t) := by rw [dcs_snoc, List.getElem?_append_right (by omega), hb]; simp [dcells]
  refine ⟨g, cap, rfl, h1, h2, h3, h4, (h.cellAt _ (by omega)).trans e1, h.frozenAt _, fun u c => ?_⟩
  obtain ⟨s1, s2⟩ := h.stored (l.length * 2 + 1) (.int .i64 u)
  refine ⟨?_, s2⟩
  have e3 : (dcs (l ++ [y])).set (l.length * 2 + 1) (.int .i64 u) = dcs (l ++ [⟨y.f, u, c⟩]) := by
    rw [dcs_snoc, dcs_snoc, List.set_append_right _ _ (by omega), hb]; simp [dcells]
  rw [e3] at s1
  simpa using s1
theorem append_rng {W w1 : World} {rb B n : Nat} {v v' : Value} {l : List B3} {b : B3} {tmp : Obj} (hn : l.length = n) (hv : Boxed W B 47 v) (hrow : W.ownsRow rb 26 2 v n (dcs l)) (hown' : w1.ownsRow rb 26 2 v' (n + 1) (dcs l ++ dcells b)) (hgrow : (W.alloc tmp).grownBy w1 v.ownBlock) :
    Boxed w1 B 47 v ∧ Boxed (w1.setCell ⟨B, 0, none⟩ v') B 47 v' ∧ (w1.setCell ⟨B, 0, none⟩ v').ownsRow rb 26 2 v' (l ++ [b]).length (dcs (l ++ [b])) ∧ KeepsOthers W (w1.setCell ⟨B, 0, none⟩ v') ∧ Ext (fun k => k = B ∨ rb ≤ k) W (w1.setCell ⟨B, 0, none⟩ v') := by
  subst hn
  obtain ⟨h1, h2, h3, h4, h5⟩ := box_append hv (by decide) hrow hown' hgrow
  exact ⟨h1, h2, by rw [dcs_snoc]; simpa using h3, h4, h5⟩

def diffG (x y : Int) : Int := if x = y then -1 else 0
theorem foldS_zero (ps : List (Int × Int × Int × Int)) : ∀ b ∈ foldS diffG ps, b.c = 0 := by
  obtain ⟨n, hn⟩ : ∃ n, n = ps.length := ⟨_, rfl⟩
  induction n generalizing ps with
  | zero => rw [List.length_eq_zero_iff.1 hn.symm]; simp [foldS]
  | succ n ih =>
    rcases List.eq_nil_or_concat ps with rfl | ⟨l, y, rfl⟩
    · simp at hn
    · rw [List.concat_eq_append] at hn ⊢
      rw [foldS_snoc]
      have ih := ih l (by simp at hn; omega)
      obtain ⟨k, hk⟩ : ∃ k, k = diffG y.2.2.1 y.2.2.2 := ⟨_, rfl⟩
      rw [← hk]
      have hk2 : k = -1 ∨ k = 0 := by rw [hk, diffG]; split <;> simp
      rcases hk2 with rfl | rfl
      · rw [step_none]; exact ih
      · rcases List.eq_nil_or_concat (foldS diffG l) with e | ⟨l', z, e⟩
        · rw [e, step_nil _ _ _ (by decide)]; simp
        · rw [List.concat_eq_append] at e
          rw [e, step_snoc _ _ _ _ _ (by decide)]
          rw [e] at ih
          split <;> (intro b hb; simp at hb)
          · rcases hb with hb | rfl
            · exact ih b (by simp [hb])
            · rfl
          · rcases hb with hb | rfl | rfl
            · exact ih b (by simp [hb])
            · exact ih _ (by simp)
            · rfl
/-- how Differ ends -/
def diffV (a b : List B3) : List B3 × Int := if validB a = true ∧ validB b = true then (foldS diffG (pieces a b 0), 0) else ([], 130)
def ResR (w : World) (r : List B3 × Int) (e : Ending) (w' : World) : Prop := ∃ v, e = .returned (.tuple #[v, .int .i64 r.2]) ∧ HoldsR w' w'.heap.size v r.1 ∧ Below w.heap.size w w'
theorem ResR.none {w w' : World} {k : List B3 × Int} (hk : k = ([], 130)) (hb : Below w.heap.size w w') : ResR w k (.returned (.tuple #[.slice none 0 0, .int .i64 130])) w' := by
  subst hk; exact ⟨_, rfl, holdsR_nil _ _, hb⟩
theorem differ_no (va vb : Value) (as_ bs : List B3) (w : World) (hva : HoldsB w w.heap.size va as_) (hvb : HoldsB w w.heap.size vb bs) (hno : ¬ (validB as_ = true ∧ validB bs = true)) :
    Calls Try.prog 26 #[va, vb] w (ResR w (diffV as_ bs)) := by
  have HV := Lib.hid (show diffV as_ bs = ([], 130) from if_neg hno)
  by_cases t0 : validB as_ = true
  · have u1 : validB bs = false := by
      cases h : validB bs with
      | false => rfl
      | true => exact absurd ⟨t0, h⟩ hno
    clear hno
    go_enter Try.func26, Try.ntmps26
    go_wp2_with fail
    refine (validH_any va as_ _ hva).mono ?_
    rintro e w1 ⟨rfl, HB⟩
    rw [t0]
    go_wp2_with fail
    refine (validH_any vb bs _ (hvb.later HB)).mono ?_
    rintro e w2 ⟨rfl, H1⟩
    replace H1 := below_trans HB H1
    rw [u1]
    go_wp2_with fail
    go_ret2
    exact ResR.none HV.out H1
  · have u0 : validB as_ = false := by simpa using t0
    clear t0 hno
    go_enter Try.func26, Try.ntmps26
    go_wp2_with fail
    refine (validH_any va as_ _ hva).mono ?_
    rintro e w1 ⟨rfl, HB⟩
    rw [u0]
    go_wp2_with fail
    go_ret2
    exact ResR.none HV.out HB
set_option maxRecDepth 100000 in
set_option maxHeartbeats 1600000 in
theorem differ_yes (va vb : Value) (a b : List B3) (wo : World) (hva0 : HoldsB wo wo.heap.size va a) (hvb0 : HoldsB wo wo.heap.size vb b) (t0 : validB a = true) (t1 : validB b = true) :
    Calls Try.prog 26 #[va, vb] wo (ResR wo (diffV a b)) := by
  have HV := Lib.hid (show diffV a b = _ from if_pos ⟨t0, t1⟩)
  refine (callsIn_wide (n := 0)).1 (callsIn_of_wp_marks Try.func26 rfl trivial ?_)
  simp only [Try.ntmps26, List.size_toArray, List.length_cons, List.length_nil, Nat.reduceAdd, Nat.reduceSub, Array.replicate_succ, Array.replicate_zero, List.push_toArray, List.append_toArray, List.nil_append, List.cons_append]
  gi_wp2_with fail
  refine ((callsIn_wide (n := 0)).2 (validH_any va a _ hva0)).mono ?_
  rintro e w1 ⟨rfl, HB⟩
  rw [t0]
  gi_wp2_with fail
  refine ((callsIn_wide (n := 0)).2 (validH_any vb b _ (hvb0.later HB))).mono ?_
  rintro e w ⟨rfl, H1⟩
  rw [t1]
  replace H1 := below_trans HB H1
  have HA := hva0.later H1
  have HBB := hvb0.later H1
  obtain ⟨A0, c0, rfl, hl0, hc0, sp0⟩ := HA
  obtain ⟨A1, c1, rfl, hl1, hc1, sp1⟩ := HBB
  have SP0 := Lib.hid sp0
  have SP1 := Lib.hid sp1
  have ha : Some a := (validB_iff.1 t0).2.some
  have hb : Some b := (validB_iff.1 t1).2.some
  have HW := Lib.hid H1
  clear sp0 sp1 HB H1 hva0 hvb0 t0 t1
  gi_wp2_with fail
  refine ((callsIn_wide (n := 0)).2 (pieces_any _ _ _ _ _ _ _)).mono ?_
  rintro e w' ⟨rfl, rfl⟩
  gi_wp2_with fail
  obtain ⟨w0, hw0⟩ : ∃ w0, w0 = ((((w.alloc (Obj.cells #[Value.slice none 0 0] 47)).alloc
              (Obj.cells #[Value.slice A0 a.length c0] 24)).alloc (Obj.cells #[Value.slice A1 b.length c1] 24)).alloc (Obj.cells #[Value.func (Fn.func 66) #[] #[]] 78)) := ⟨_, rfl⟩
  rw [← hw0]
  have hsz : w0.heap.size = w.heap.size + 4 := by rw [hw0]; simp
  have b1 : Boxed w0 w.heap.size 47 (.slice none 0 0) := by
    rw [hw0]; exact (((Boxed.new w 47 _).alloc _).alloc _).alloc _
  have b2 : Boxed w0 (w.heap.size + 1) 24 (.slice A0 a.length c0) := by
    rw [hw0]; refine Boxed.alloc (Boxed.alloc ?_ _) _; have := Boxed.new (w.alloc (.cells #[.slice none 0 0] 47)) 24 (.slice A0 a.length c0); simpa using this
  have b3 : Boxed w0 (w.heap.size + 2) 24 (.slice A1 b.length c1) := by
    rw [hw0]; refine Boxed.alloc ?_ _; have := Boxed.new ((w.alloc (.cells #[.slice none 0 0] 47)).alloc (.cells #[.slice A0 a.length c0] 24)) 24 (.slice A1 b.length c1); simpa using this
  have b4 : Boxed w0 (w.heap.size + 3) 78 (.func (.func 66) #[] #[]) := by
    rw [hw0]; have := Boxed.new (((w.alloc (.cells #[.slice none 0 0] 47)).alloc (.cells #[.slice A0 a.length c0] 24)).alloc (.cells #[.slice A1 b.length c1] 24)) 78 (.func (.func 66) #[] #[]); simpa using this
  have hbel0 : Below w.heap.size w w0 := by
    rw [hw0]; exact ((((Below.refl _ w).alloc (Nat.le_refl _) _).alloc (by simp) _).alloc (by simp; omega) _).alloc (by simp; omega) _
  have h0A : HoldsB w0 w.heap.size (.slice A0 a.length c0) a := ⟨_, _, rfl, hl0, hc0, SP0.out.below hbel0 (Nat.le_refl _)⟩
  have h0B : HoldsB w0 w.heap.size (.slice A1 b.length c1) b := ⟨_, _, rfl, hl1, hc1, SP1.out.below hbel0 (Nat.le_refl _)⟩
  clear hw0
  have hI : ∀ (pre : List (Int × Int × Int × Int)) (X Y : World), (∃ v, Boxed X w.heap.size 47 v ∧ X.ownsRow (w.heap.size + 4) 26 2 v (foldS diffG pre).length (dcs (foldS diffG pre)) ∧ Below w.heap.size w X) →
      Ext (sideOf (fun k => k = w.heap.size + 1 ∨ k = w.heap.size + 2) w0.heap.size X) X Y →
      (∃ v, Boxed Y w.heap.size 47 v ∧ Y.ownsRow (w.heap.size + 4) 26 2 v (foldS diffG pre).length (dcs (foldS diffG pre)) ∧ Below w.heap.size w Y) := by
    rintro pre X Y ⟨v, h1, h2, h4⟩ hx
    exact ⟨v, boxed_side h1 hx (by omega), own_side h2 hx (by intro k hk; omega), below_side h4 hx (by intro k hk; omega) (by omega) (Nat.le_refl _)⟩
  refine wpIn_rangeIt (gf := 67) (lb := #[.pointer (some ⟨w.heap.size + 3, 0, none⟩), .pointer (some ⟨w.heap.size + 1, 0, none⟩), .pointer (some ⟨w.heap.size + 2, 0, none⟩)]) rfl (enters_of Try.func67 (by kernel_rfl) rfl) (encs := encP) (xs := pieces a b 0)
    (mine := fun k => k = w.heap.size + 1 ∨ k = w.heap.size + 2) (needs := fun k => k < w.heap.size ∨ k = w.heap.size + 1 ∨ k = w.heap.size + 2 ∨ k = w.heap.size + 3)
    (by intro k hk; omega) (by intro k hk; omega)
    (fun W1 hx => pieces_iter a b _ _ _ w.heap.size W1 ha hb _ _ (by omega) (by omega) (by omega) (by omega) (by omega) (by omega) ((hx.block _ (by omega)).trans b4) ((hx.block _ (by omega)).trans b2) ((hx.block _ (by omega)).trans b3)
      (h0A.keep (fun k hk => hx.block k (by omega))) (h0B.keep (fun k hk => hx.block k (by omega)))) (fun _ => rfl)
    (fun pre W => ∃ v, Boxed W w.heap.size 47 v ∧ W.ownsRow (w.heap.size + 4) 26 2 v (foldS diffG pre).length (dcs (foldS diffG pre)) ∧ Below w.heap.size w W)
    (fun _ _ _ => False)
    hI (fun _ _ _ _ h _ => h) ⟨_, b1, World.ownsRow_nil _ _ _ _, hbel0⟩ ?round ?done (fun _ _ _ _ _ _ _ h => h.elim)
  case round =>
    rintro l pre ⟨f, t, x, y⟩ post W hxs hi0 hlt
    dsimp only [encP]
    gi_wp2_with fail
    have hk1 : Below W.heap.size W ((W.alloc (Obj.cells #[Value.int IntKind.i64 f, Value.int IntKind.i64 t] 26)).alloc (Obj.cells #[Value.int IntKind.i64 x, Value.int IntKind.i64 y] 35)) := ((Below.refl _ W).alloc (Nat.le_refl _) _).alloc (by simp) _
    have hr1 : ((W.alloc (Obj.cells #[Value.int IntKind.i64 f, Value.int IntKind.i64 t] 26)).alloc (Obj.cells #[Value.int IntKind.i64 x, Value.int IntKind.i64 y] 35)).heap[W.heap.size]? = some (.cells #[.int .i64 f, .int .i64 t] 26) := alloc_old _ (new_heap _ _)
    have hr2 : ((W.alloc (Obj.cells #[Value.int IntKind.i64 f, Value.int IntKind.i64 t] 26)).alloc (Obj.cells #[Value.int IntKind.i64 x, Value.int IntKind.i64 y] 35)).heap[W.heap.size + 1]? = some (.cells #[.int .i64 x, .int .i64 y] 35) := by
      have := new_heap (W.alloc (Obj.cells #[Value.int IntKind.i64 f, Value.int IntKind.i64 t] 26)) (Obj.cells #[Value.int IntKind.i64 x, Value.int IntKind.i64 y] 35); rwa [World.size_alloc] at this
    refine ⟨keeps_below hk1, fun k hk => hk1.block k (by omega), fun W₂ hx => ?_⟩
    have hi1 := hI _ _ _ hi0 (Ext.of_below hk1 (fun k h1 h2 => absurd h1 (by omega)))
    have hi2 := hI _ _ _ hi1 hx
    have hr3 := hx.keeps hr1 (fun hs => by
      rcases hs with hs | ⟨_, o, ho, hc⟩
      · omega
      · rw [hr1] at ho; cases ho; cases hc)
    have hr4 := hx.keeps hr2 (fun hs => by
      rcases hs with hs | ⟨_, o, ho, hc⟩
      · omega
      · rw [hr2] at ho; cases ho; cases hc)
    clear hr1 hr2 hk1 hi0 hi1 hx b1 b2 b3 b4 h0A h0B hI
    have x0 := blk_cell (cs := [.int .i64 x, .int .i64 y]) hr4 (i := 0) rfl
    have x1 := blk_cell (cs := [.int .i64 x, .int .i64 y]) hr4 (i := 1) rfl
    have hW2 : W.heap.size < W₂.heap.size := (Array.getElem?_eq_some_iff.1 hr3).1
    have hlen : (foldS diffG pre).length ≤ 100000000 := by
      have h9 := congrArg List.length hxs
      have h8 := foldS_len diffG pre
      rcases pieces_len a b 0 with h7 | h7
      · simp at h9; omega
      · rw [h7] at h9; simp at h9
    have hfo : foldS diffG (pre ++ [(f, t, x, y)]) = Blk.step (foldS diffG pre) f t (diffG x y) := by rw [foldS_snoc]
    have HFO := Lib.hid hfo
    clear hxs hfo
    by_cases hxy : x = y
    · have t1 : (x == y) = true := by rw [beq_iff_eq]; exact hxy
      have HST := Lib.hid (show Blk.step (foldS diffG pre) f t (diffG x y) = foldS diffG pre by rw [diffG, if_pos hxy, step_none])
      clear hxy
      gi_wp2_with fail
      refine ⟨KeepsFrom.refl _ _, fun k hk => rfl, ?_⟩
      simp only [HFO.out, HST.out]; exact hi2
    · have t1 : (x == y) = false := by rw [beq_eq_false_iff_ne]; exact hxy
      have hdg : diffG x y = 0 := if_neg hxy
      obtain ⟨v, h1, h2, h4⟩ := hi2
      have hc1 := h1.cell
      have hlB := h1.lt
      obtain ⟨i0, hi, hz0, hz1, hz2⟩ := info_parts info26
      rcases List.eq_nil_or_concat (foldS diffG pre) with e | ⟨lst, q, e⟩
      · have hst : Blk.step (foldS diffG pre) f t (diffG x y) = [] ++ [⟨f, t, 0⟩] := by rw [e, hdg, step_nil _ _ _ (by decide)]; rfl
        have HST := Lib.hid hst
        rw [e] at h2
        obtain ⟨A, c, rfl, _, _⟩ := own_slice h2
        clear hxy hst e hdg
        have hq0 := blk_cell (cs := [.int .i64 f, .int .i64 t]) hr3 (i := 0) rfl
        have hq1 := blk_cell (cs := [.int .i64 f, .int .i64 t]) hr3 (i := 1) rfl
        clear hr3 hr4
        simp only [List.length_nil] at hc1
        gi_upto_region 9 with fail
        refine quietRound_region (by kernel_rfl) (by kernel_rfl) (by kernel_rfl) ?_
        repeat (gi_big_quiet_step (fail))
        refine wpQuietIn_nil ?_
        rintro W4 ⟨nq, hW4⟩
        have g1 : Boxed W4 w.heap.size 47 (.slice A 0 c) := by rw [hW4]; exact h1
        have g2 : W4.ownsRow (w.heap.size + 4) 26 2 (.slice A 0 c) 0 (dcs ([] : List B3)) := by rw [hW4]; have h2x := h2; simp only [List.length_append, List.length_singleton, List.length_nil] at h2x; exact h2x
        have g4 : Below w.heap.size w W4 := by rw [hW4]; exact below_dN h4 _
        have g5 : KeepsFrom w0.heap.size W₂ W4 := by rw [hW4]; exact (keeps_below (below_dN (Below.refl _ _) _))
        have g6 : ∀ k, k < W₂.heap.size → W4.heap[k]? = W₂.heap[k]? := fun k hk => by rw [hW4]; rfl
        have hsz4 : W₂.heap.size ≤ W4.heap.size := by rw [hW4]; exact Nat.le_refl _
        have G6 := Lib.hid g6
        have hq0' : W4.cell? ⟨W.heap.size, 0, none⟩ = some (.int .i64 f) := by rw [hW4]; exact hq0
        have hq1' : W4.cell? ⟨W.heap.size, 1, none⟩ = some (.int .i64 t) := by rw [hW4]; exact hq1
        have hc1' := g1.cell
        clear hq0 hq1 hc1 h1 h2 h4 hW4 g6
        gi_wp2_with (gi_at_builtin; refine wpListIn_append_own _ rfl _ _ 47 rfl (w.heap.size + 4) 26 i0 _ 2 16 Try.underlying47 hi hz0 hz1 hz2 rfl (by decide) _ _ _ rfl (g2.alloc _) ⟨W4.heap.size, 0, none⟩ 1 1 (dcells ⟨f, t, 0⟩) rfl rfl (news_rng _ _) (by simp [dcells, Value.oneCell']) (by unfold maxLen; simp; try omega) (by simp; try omega) (by simp; omega) ?_; intro v' w1 hown' hgrow hnil; clear hnil; obtain ⟨hv1, hv2, hr2, hk2, hx2⟩ := append_rng (l := ([] : List B3)) (by simp) g1 g2 hown' hgrow; obtain ⟨g', cap', rfl⟩ := ownsRow_succ hown'; have hc2 := hv1.cell; have hf2 := hv1.frozen)
        refine ⟨g5.trans (hk2.from _), fun k hk => (hx2.block k (by omega) (by omega)).trans (G6.out k (by omega)), ?_⟩
        simp only [HFO.out, HST.out]
        exact ⟨_, hv2, hr2, g4.trans (hx2.below (by omega) (by omega))⟩
      · rw [List.concat_eq_append] at e
        have hll : lst.length + 1 ≤ 100000000 := by rw [e] at hlen; simpa using hlen
        have hq0c : q.c = 0 := foldS_zero pre q (by rw [e]; simp)
        rw [e] at h2
        have h2' := Lib.hid h2
        obtain ⟨g', cap', rfl, hrb, hgl, hcap, hcm, c1, hfz, hset⟩ := last_rng h2
        have hst : Blk.step (foldS diffG pre) f t (diffG x y) = if q.t = f ∧ q.c = 0 then lst ++ [⟨q.f, t, 0⟩] else (lst ++ [q]) ++ [⟨f, t, 0⟩] := by rw [e, hdg, step_snoc _ _ _ _ _ (by decide)]
        have hq0 := blk_cell (cs := [.int .i64 f, .int .i64 t]) hr3 (i := 0) rfl
        have hq1 := blk_cell (cs := [.int .i64 f, .int .i64 t]) hr3 (i := 1) rfl
        have s1 : IntKind.i64.wrap (((lst.length + 1 : Nat) : Int) - 1) = (lst.length : Int) := by rw [IntWalk.i64_in _ (by omega)]; omega
        have s2 : (0 : Int) < ((lst.length + 1 : Nat) : Int) := by omega
        clear hr3 hr4 hset
        by_cases e1 : q.t = f
        · have b1 : (q.t == f) = true := by rw [beq_iff_eq]; exact e1
          have HST : Hid (Blk.step (foldS diffG pre) f t (diffG x y) = lst ++ [⟨q.f, t, 0⟩]) := Lib.hid (by rw [hst, if_pos ⟨e1, hq0c⟩])
          clear e1 hst hq0c e hdg hxy h2
          gi_upto_region 9 with fail
          refine quietRound_region (by kernel_rfl) (by kernel_rfl) (by kernel_rfl) ?_
          repeat (gi_big_quiet_step (fail))
          refine wpQuietIn_nil ?_
          rintro W4 ⟨nq, hW4⟩
          have g1 : Boxed W4 w.heap.size 47 (.slice (some ⟨g', 0, none⟩) (lst.length + 1) cap') := by rw [hW4]; exact h1
          have g4 : Below w.heap.size w W4 := by rw [hW4]; exact below_dN h4 _
          have g5 : KeepsFrom w0.heap.size W₂ W4 := by rw [hW4]; exact (keeps_below (below_dN (Below.refl _ _) _))
          have g6 : ∀ k, k < W₂.heap.size → W4.heap[k]? = W₂.heap[k]? := fun k hk => by rw [hW4]; rfl
          have g7 : W4.ownsRow (w.heap.size + 4) 26 2 (.slice (some ⟨g', 0, none⟩) (lst.length + 1) cap') (lst ++ [q]).length (dcs (lst ++ [q])) := by rw [hW4]; exact h2'.out
          obtain ⟨_, _, hv, _, hgl4, _, _, c1', hfz', hset'⟩ := last_rng g7
          cases hv
          have G6 := Lib.hid g6
          have HSET' := Lib.hid hset'
          have hq1' : W4.cell? ⟨W.heap.size, 1, none⟩ = some (.int .i64 t) := by rw [hW4]; exact hq1
          have hc1' := g1.cell
          clear hq0 hq1 hc1 h1 h4 hW4 g6 g7 hset' c1 hfz
          gi_wp2_with fail
          refine ⟨g5.trans ((KeepsOthers.setCell _ _ _).from _), fun k hk => (Below.heap_setCell _ _ _ _ (by simp only; omega)).trans (G6.out k (by omega)), ?_⟩
          simp only [HFO.out, HST.out]
          obtain ⟨r1, r2⟩ := HSET'.out t 0
          exact ⟨_, g1.kept r2 (by simp; omega), r1, g4.grown r2 (Nat.le_trans (by omega) g4.size) (by intro j hj; simp at hj; omega)⟩
        · have b1 : (q.t == f) = false := by rw [beq_eq_false_iff_ne]; exact e1
          have HST : Hid (Blk.step (foldS diffG pre) f t (diffG x y) = (lst ++ [q]) ++ [⟨f, t, 0⟩]) := Lib.hid (by rw [hst, if_neg (fun h => e1 h.1)])
          clear e1 hst hq0c e hdg hxy
          gi_upto_region 9 with fail
          refine quietRound_region (by kernel_rfl) (by kernel_rfl) (by kernel_rfl) ?_
          repeat (gi_big_quiet_step (fail))
          refine wpQuietIn_nil ?_
          rintro W4 ⟨nq, hW4⟩
          have g1 : Boxed W4 w.heap.size 47 (.slice (some ⟨g', 0, none⟩) (lst.length + 1) cap') := by rw [hW4]; exact h1
          have g2 : W4.ownsRow (w.heap.size + 4) 26 2 (.slice (some ⟨g', 0, none⟩) (lst.length + 1) cap') (lst.length + 1) (dcs (lst ++ [q])) := by rw [hW4]; have h2x := h2; simp only [List.length_append, List.length_singleton, List.length_nil] at h2x; exact h2x
          have g4 : Below w.heap.size w W4 := by rw [hW4]; exact below_dN h4 _
          have g5 : KeepsFrom w0.heap.size W₂ W4 := by rw [hW4]; exact (keeps_below (below_dN (Below.refl _ _) _))
          have g6 : ∀ k, k < W₂.heap.size → W4.heap[k]? = W₂.heap[k]? := fun k hk => by rw [hW4]; rfl
          have hsz4 : W₂.heap.size ≤ W4.heap.size := by rw [hW4]; exact Nat.le_refl _
          have G6 := Lib.hid g6
          have hq0' : W4.cell? ⟨W.heap.size, 0, none⟩ = some (.int .i64 f) := by rw [hW4]; exact hq0
          have hq1' : W4.cell? ⟨W.heap.size, 1, none⟩ = some (.int .i64 t) := by rw [hW4]; exact hq1
          have hc1' := g1.cell
          clear hq0 hq1 hc1 h1 h2 h4 hW4 g6
          gi_wp2_with (gi_at_builtin; refine wpListIn_append_own _ rfl _ _ 47 rfl (w.heap.size + 4) 26 i0 _ 2 16 Try.underlying47 hi hz0 hz1 hz2 rfl (by decide) _ _ _ rfl (g2.alloc _) ⟨W4.heap.size, 0, none⟩ 1 1 (dcells ⟨f, t, 0⟩) rfl rfl (news_rng _ _) (by simp [dcells, Value.oneCell']) (by unfold maxLen; omega) (by omega) (by simp; omega) ?_; intro v' w1 hown' hgrow hnil; clear hnil; obtain ⟨hv1, hv2, hr2, hk2, hx2⟩ := append_rng (l := (lst ++ [q])) (by simp) g1 g2 hown' hgrow; obtain ⟨g', cap', rfl⟩ := ownsRow_succ hown'; have hc2 := hv1.cell; have hf2 := hv1.frozen)
          refine ⟨g5.trans (hk2.from _), fun k hk => (hx2.block k (by omega) (by omega)).trans (G6.out k (by omega)), ?_⟩
          simp only [HFO.out, HST.out]
          exact ⟨_, hv2, hr2, g4.trans (hx2.below (by omega) (by omega))⟩
  case done =>
    rintro D W ⟨v, h1, h2, h4⟩ hD hK
    obtain ⟨A, c, rfl, hl, hcm⟩ := own_slice h2
    have hc := h1.cell
    have hH : HoldsR W W.heap.size (.slice A (foldS diffG (pieces a b 0)).length c) (foldS diffG (pieces a b 0)) := ⟨A, c, rfl, hl, hcm, Span.of_own h2⟩
    have HH := Lib.hid hH
    have hend : Below w.heap.size w (W.putObj D (.deferred none)) := h4.trans ((Ext.putObj (fun k => w0.heap.size ≤ k) _ _ _ hD).below (by intros; omega) (by have := h4.size; omega))
    have hsd : (W.putObj D (.deferred none)).heap.size = W.heap.size := by simp
    have HSD := Lib.hid hsd
    clear h1 h2 hH hI hsd
    gi_wp2_with fail
    refine ⟨by simp; try omega, .inl ⟨_, _, rfl, run_takeDeferred hK, ?_⟩⟩
    exact ⟨_, results_tmp2 rfl _ _ _, _, by rw [HV.out]; rfl, by rw [HSD.out, HV.out]; exact holdsR_put hK rfl HH.out, below_trans HW.out hend⟩
theorem differ_any (va vb : Value) (as_ bs : List B3) (w : World) (hva : HoldsB w w.heap.size va as_) (hvb : HoldsB w w.heap.size vb bs) : Calls Try.prog 26 #[va, vb] w (ResR w (diffV as_ bs)) := by
  by_cases h : validB as_ = true ∧ validB bs = true
  · exact differ_yes va vb as_ bs w hva hvb h.1 h.2
  · exact differ_no va vb as_ bs w hva hvb h
end Go.Proofs.Ytmgippddljmfjaa
