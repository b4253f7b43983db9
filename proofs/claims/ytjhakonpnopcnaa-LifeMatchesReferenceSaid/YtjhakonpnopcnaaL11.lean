/-
  life.Stays.
-/
import Derived.Test.YtjhakonpnopcnaaL10
import Derived.Deep.AppendLies
set_option linter.unusedVariables false
set_option linter.unusedSimpArgs false
namespace Go.Proofs.Ytjhakonpnopcnaa
open Go Go.RowKit Go.Dial Go.Dial.Lif
attribute [local go_sem] Oper.semAt_some

def stc (y : St) : List Value := [.int .i64 y.h, .int .i64 y.e, .int .i64 y.f, .int .i64 y.t]
theorem stc_len (y : St) : (stc y).length = 4 := rfl
theorem infoSt : (Try.prog.info? 66).map (fun i => (i.zero, i.size, i.bytes)) = some (some (.agg #[.int .i64 0, .int .i64 0, .int .i64 0, .int .i64 0]), 4, 32) := by kernel_rfl
theorem stcs_snoc (l : List St) (b : St) : (l ++ [b]).flatMap stc = l.flatMap stc ++ stc b := by simp
/-- what the range of Stays has collected -/
def stAcc (es : List Ev) (pre : List (Int × Ln)) : List St := pre.foldl (fun o p => stS o p.2 (toOf es (p.1 + 1).toNat)) []
theorem stAcc_snoc (es : List Ev) (pre : List (Int × Ln)) (x : Int × Ln) : stAcc es (pre ++ [x]) = stS (stAcc es pre) x.2 (toOf es (x.1 + 1).toNat) := by simp [stAcc]
theorem stAcc_pre {es : List Ev} (h : All first es) (j : Nat) (hj : j ≤ es.length) : stAcc es (preL es j) = staysK es j := by
  induction j with
  | zero =>
    show stS ([] : List St) first (toOf es ((-1 : Int) + 1).toNat) = []
    exact stS_no (fun hh => absurd hh.1 (by decide))
  | succ j ih =>
    obtain ⟨_, _, _, k4⟩ := preL_ok (all_take h j) (show j < es.length by omega) (lnK_ok h (by omega))
    rw [k4, stAcc_snoc, ih (by omega)]
    rfl
theorem stAcc_all {es : List Ev} (h : All first es) : stAcc es (linesL es) = staysL es := by rw [preL_all, stAcc_pre h _ (Nat.le_refl _)]; rfl
theorem stAcc_len (es : List Ev) (pre : List (Int × Ln)) : (stAcc es pre).length ≤ pre.length := by
  obtain ⟨n, hn⟩ : ∃ n, n = pre.length := ⟨_, rfl⟩
  induction n generalizing pre with
  | zero => rw [List.length_eq_zero_iff.1 hn.symm]; simp [stAcc]
  | succ n ih =>
    rcases List.eq_nil_or_concat pre with rfl | ⟨l, y, rfl⟩
    · simp at hn
    · rw [List.concat_eq_append] at hn ⊢
      rw [stAcc_snoc]
      have := ih l (by simp at hn; omega)
      have := stS_len (stAcc es l) y.2 (toOf es (y.1 + 1).toNat)
      simp; omega
theorem linesL_elem {l : List Ev} {pre post : List (Int × Ln)} {x : Int × Ln} (h : linesL l = pre ++ x :: post) : pre.length ≤ l.length ∧ -1 ≤ x.1 ∧ x.1 < l.length := by
  have hlen := linesA_len 0 first l
  have hle := runF_le first l
  have h1 := congrArg List.length h
  have hx : x ∈ linesL l := by rw [h]; simp
  refine ⟨by simp [linesL, hlen] at h1; omega, ?_⟩
  rcases List.mem_cons.1 hx with rfl | hx
  · exact ⟨by decide, by simp only; omega⟩
  · obtain ⟨k, hk, rfl⟩ := List.getElem_of_mem hx
    rw [linesA_get hk]
    simp only; omega
theorem own_sl {W : World} {rb : Nat} {e : TypeId} {sz n : Nat} {v : Value} {xs : List Value} (h : W.ownsRow rb e sz v n xs) : ∃ A c, v = .slice A n c ∧ n ≤ c ∧ c ≤ maxLen := by
  rcases h.2 with ⟨rfl, rfl⟩ | ⟨g, cap, cur, rfl, _, _, h1, h2, _⟩
  · exact ⟨none, 0, rfl, Nat.le_refl _, Nat.zero_le _⟩
  · exact ⟨_, _, rfl, h1, h2⟩
/-- the last stay of a row -/
theorem last_st {W : World} {rb : Nat} {v : Value} {l : List St} {y : St} (h : W.ownsRow rb 66 4 v (l ++ [y]).length ((l ++ [y]).flatMap stc)) :
    ∃ g cap, v = .slice (some ⟨g, 0, none⟩) (l.length + 1) cap ∧ rb ≤ g ∧ g < W.heap.size ∧ l.length + 1 ≤ cap ∧ cap ≤ maxLen ∧ W.cell? ⟨g, l.length * 4 + 1, none⟩ = some (.int .i64 y.e) ∧ W.cell? ⟨g, l.length * 4 + 3, none⟩ = some (.int .i64 y.t) ∧ W.frozen? ⟨g, l.length * 4 + 3, none⟩ = false ∧
      ∀ u : Int, (W.setCell ⟨g, l.length * 4 + 3, none⟩ (.int .i64 u)).ownsRow rb 66 4 v (l ++ [(⟨y.h, y.e, y.f, u⟩ : St)]).length ((l ++ [(⟨y.h, y.e, y.f, u⟩ : St)]).flatMap stc) ∧ W.grownBy (W.setCell ⟨g, l.length * 4 + 3, none⟩ (.int .i64 u)) (some g) := by
  rw [List.length_append, List.length_singleton] at h
  have hlt : ∃ g cap, v = .slice (some ⟨g, 0, none⟩) (l.length + 1) cap ∧ rb ≤ g ∧ g < W.heap.size ∧ l.length + 1 ≤ cap ∧ cap ≤ maxLen := by
    rcases h.2 with ⟨_, hn⟩ | ⟨g, cap, cur, rfl, hb, hg, h1, h2, _⟩
    · omega
    · exact ⟨g, cap, rfl, hb, heap_lt hg, h1, h2⟩
  obtain ⟨g, cap, rfl, h1, h2, h3, h4⟩ := hlt
  have hb := flat_len stc_len l
  have e1 : ((l ++ [y]).flatMap stc)[l.length * 4 + 1]? = some (.int .i64 y.e) := by rw [stcs_snoc, List.getElem?_append_right (by omega), hb]; simp [stc]
  have e2 : ((l ++ [y]).flatMap stc)[l.length * 4 + 3]? = some (.int .i64 y.t) := by rw [stcs_snoc, List.getElem?_append_right (by omega), hb]; simp [stc]
  refine ⟨g, cap, rfl, h1, h2, h3, h4, (h.cellAt _ (by omega)).trans e1, (h.cellAt _ (by omega)).trans e2, h.frozenAt _, fun u => ?_⟩
  obtain ⟨s1, s2⟩ := h.stored (l.length * 4 + 3) (.int .i64 u)
  refine ⟨?_, s2⟩
  have e3 : ((l ++ [y]).flatMap stc).set (l.length * 4 + 3) (.int .i64 u) = (l ++ [(⟨y.h, y.e, y.f, u⟩ : St)]).flatMap stc := by
    rw [stcs_snoc, stcs_snoc, List.set_append_right _ _ (by omega), hb]; simp [stc]
  rw [e3] at s1
  simpa using s1
theorem news_st (W : World) (b : St) : ∀ j u, (stc b)[j]? = some u → (W.alloc (.cells #[.int .i64 b.h, .int .i64 b.e, .int .i64 b.f, .int .i64 b.t] 66)).cell? ((⟨W.heap.size, 0, none⟩ : Addr).add j) = some u :=
  World.news_of_block (cs := #[.int .i64 b.h, .int .i64 b.e, .int .i64 b.f, .int .i64 b.t]) (newcell _ _)
theorem append_st {W w1 : World} {rb B n : Nat} {v v' : Value} {l : List St} {b : St} {tmp : Obj} (hn : l.length = n) (hv : Boxed W B 37 v) (hrow : W.ownsRow rb 66 4 v n (l.flatMap stc)) (hown' : w1.ownsRow rb 66 4 v' (n + 1) (l.flatMap stc ++ stc b)) (hgrow : (W.alloc tmp).grownBy w1 v.ownBlock) :
    Boxed w1 B 37 v ∧ Boxed (w1.setCell ⟨B, 0, none⟩ v') B 37 v' ∧ (w1.setCell ⟨B, 0, none⟩ v').ownsRow rb 66 4 v' (l ++ [b]).length ((l ++ [b]).flatMap stc) ∧ KeepsOthers W (w1.setCell ⟨B, 0, none⟩ v') ∧ Ext (fun k => k = B ∨ rb ≤ k ∧ some k = v.ownBlock) W (w1.setCell ⟨B, 0, none⟩ v') := by
  subst hn
  obtain ⟨h1, h2, h3, h4, h5⟩ := box_append hv (by decide) hrow hown' hgrow
  refine ⟨h1, h2, by rw [stcs_snoc]; simpa using h3, h4, ?_⟩
  refine ((Ext.alloc _ W tmp).trans ?_).trans (Ext.setCell _ _ _ _ (.inl rfl))
  exact ⟨hgrow.os, hgrow.tape, hgrow.output, hgrow.size, fun k hk hm => hgrow.block k hk (fun ek => hm (.inr ⟨(hrow.lt k ek.symm).1, ek⟩))⟩
def StaysPost (es : List Ev) (w : World) (e : Ending) (w' : World) : Prop := ∃ v, e = .returned (.tuple #[v, .int .i64 (staysR es).2]) ∧ HoldsG stc 4 w' w'.heap.size v (staysR es).1 ∧ Below w.heap.size w w'

theorem span_putG {W : World} {B sz n D : Nat} {A : Option Addr} {cs : List Value} {o o' : Obj} (hK : W.heap[D]? = some o') (hc : o'.isCells = false) (h : Span W B sz A n cs) : Span (W.putObj D o) B sz A n cs := by
  refine ⟨h.1, fun j u hu => ?_⟩
  obtain ⟨a, e, hb, hcell⟩ := h.2 j u hu
  refine ⟨a, e, hb, ?_⟩
  by_cases hd : (a.add j).block = D
  · exfalso
    unfold World.cell? at hcell
    rw [hd, hK] at hcell
    cases o' <;> simp [Obj.isCells] at hc hcell
  · exact (World.cell?_of_block (World.putObj_heap_other hd)).trans hcell
theorem holdsG_put {α : Type} {f : α → List Value} {sz : Nat} {W : World} {B D : Nat} {v : Value} {l : List α} {o o' : Obj} (hK : W.heap[D]? = some o') (hc : o'.isCells = false) (h : HoldsG f sz W B v l) : HoldsG f sz (W.putObj D o) B v l := by
  obtain ⟨A, c, rfl, h1, h2, h3⟩ := h
  exact ⟨A, c, rfl, h1, h2, span_putG hK hc h3⟩
theorem keepsP_row {X Y : World} {rb B base sz n : Nat} {ty e : TypeId} {v : Value} {xs : List Value} (hrow : X.ownsRow rb e sz v n xs) (he : e ≠ ty) (hx : Ext (fun k => k = B ∨ rb ≤ k ∧ some k = v.ownBlock) X Y) (hB : B < base) : KeepsP (protT ty) base X Y := fun k o hk hp ho => hx.keeps ho (by
  rintro (h | ⟨_, h⟩)
  · omega
  · rcases hrow.2 with ⟨rfl, _⟩ | ⟨g, cap, cur, rfl, _, hg, _⟩
    · simp [Value.ownBlock] at h
    · obtain rfl : k = g := by simpa [Value.ownBlock] using h
      rw [hg] at ho; cases ho
      obtain ⟨c, f, h⟩ := hp
      cases h; exact he rfl)
theorem RunPostEq (es : List Ev) (w : World) : RunPost es w = fun e w' => e = .returned (.tuple #[lnA (runR es).1.1, .int .i64 ((runR es).1.2 : Int), .int .i64 (runR es).2]) ∧ Below w.heap.size w w' := rfl
set_option maxRecDepth 100000 in
set_option maxHeartbeats 3200000 in
theorem lstays_any (v0 : Value) (es : List Ev) (w : World) (hv : HoldsG evc 3 w w.heap.size v0 es) : Calls Try.prog 10 #[v0] w (StaysPost es w) := by
  refine (callsIn_wide (n := 0)).1 (callsIn_of_wp_marks Try.func10 rfl trivial ?_)
  simp only [Try.ntmps10, List.size_toArray, List.length_cons, List.length_nil, Nat.reduceAdd, Nat.reduceSub, Array.replicate_succ, Array.replicate_zero, List.push_toArray, List.append_toArray, List.nil_append, List.cons_append]
  obtain ⟨A, c, rfl, h0, hc, hsp0⟩ := hv
  have hcc := hc
  unfold maxLen at hc
  have SP := Lib.hid hsp0
  have hw1 : Below w.heap.size w (w.alloc (.cells #[.slice A es.length c] 24)) := below_new _ _
  have c1 : (w.alloc (.cells #[.slice A es.length c] 24)).heap[w.heap.size]? = some (.cells #[.slice A es.length c] 24) := newcell _ _
  obtain ⟨w1, hw1e⟩ : ∃ w1, w1 = w.alloc (.cells #[.slice A es.length c] 24) := ⟨_, rfl⟩
  rw [← hw1e] at hw1 c1
  have HWE := Lib.hid hw1e
  have k1 := (show Boxed w1 _ _ _ from c1).cell
  have HV1 : Hid (HoldsG evc 3 w1 w1.heap.size (.slice A es.length c) es) := Lib.hid ⟨A, c, rfl, h0, hcc, (hsp0.below hw1 (Nat.le_refl _)).mono hw1.size⟩
  have C1 := Lib.hid c1
  have HB1 := Lib.hid hw1
  clear hsp0 hw1 c1 hw1e
  gi_wp2_with fail
  rw [← HWE.out]
  gi_wp2_with fail
  refine ((callsIn_wide (n := 0)).2 (lrun_any _ es _ HV1.out)).mono ?_
  rw [RunPostEq]
  by_cases hl : Life es
  · rw [runR_life hl]
    obtain ⟨Q, hQ⟩ : ∃ Q, Q = fin first es := ⟨_, rfl⟩
    rw [← hQ]
    clear hQ
    dsimp only [lnA]
    rintro e w2 ⟨rfl, hb2⟩
    have HL := Lib.hid hl
    have hlen := hl.2
    have C2 := Lib.hid (keepcell C1.out hb2)
    have HB2 := Lib.hid (below_then HB1.out hb2)
    have k2 := (show Boxed w2 _ _ _ from C2.out).cell
    have l2 := heap_lt C2.out
    have l3 : w.heap.size ≠ w2.heap.size := by omega
    clear k1 hb2 hl C1 HB1
    gi_wp2_with fail
    refine ((callsIn_wide (n := 0)).2 (llines_any A es.length c _)).mono ?_
    rintro e w' ⟨rfl, rfl⟩
    gi_wp2_with fail
    obtain ⟨w0, hw0⟩ : ∃ w0, w0 = ((w2.alloc (.cells #[.int .i64 Q.s, .int .i64 Q.h, .int .i64 Q.e, .int .i64 Q.t] 26)).alloc (.cells #[.slice none 0 0] 37)).alloc (.cells #[.slice A es.length c] 24) := ⟨_, rfl⟩
    rw [← hw0]
    have hsz : w0.heap.size = w2.heap.size + 3 := by rw [hw0]; simp
    have hb02 : Below w2.heap.size w2 w0 := by rw [hw0]; exact below_new3 _ _ _ _
    have b7 : Boxed w0 (w2.heap.size + 1) 37 (.slice none 0 0) := by
      rw [hw0]; refine oldcell _ ?_; have := newcell (w2.alloc (.cells #[.int .i64 Q.s, .int .i64 Q.h, .int .i64 Q.e, .int .i64 Q.t] 26)) (.cells #[.slice none 0 0] 37); simpa using this
    have bl : Boxed w0 (w2.heap.size + 2) 24 (.slice A es.length c) := by
      rw [hw0]; have := newcell ((w2.alloc (.cells #[.int .i64 Q.s, .int .i64 Q.h, .int .i64 Q.e, .int .i64 Q.t] 26)).alloc (.cells #[.slice none 0 0] 37)) (.cells #[.slice A es.length c] 24); rw [show ((w2.alloc (.cells #[.int .i64 Q.s, .int .i64 Q.h, .int .i64 Q.e, .int .i64 Q.t] 26)).alloc (.cells #[.slice none 0 0] 37)).heap.size = w2.heap.size + 2 by simp] at this; exact this
    have b1 : Boxed w0 w.heap.size 24 (.slice A es.length c) := keepcell C2.out hb02
    have hbel0 : Below w.heap.size w w0 := below_then HB2.out hb02
    have hH : HoldsG evc 3 w0 w.heap.size (.slice A es.length c) es := ⟨A, c, rfl, h0, hcc, SP.out.below hbel0 (Nat.le_refl _)⟩
    clear hw0 k2 hb02
    have hI : ∀ (pre : List (Int × Ln)) (X Y : World), (∃ v, Boxed X (w2.heap.size + 1) 37 v ∧ X.ownsRow w0.heap.size 66 4 v (stAcc es pre).length ((stAcc es pre).flatMap stc) ∧ Boxed X w.heap.size 24 (.slice A es.length c) ∧ Below w.heap.size w X) →
        Ext (sideP (protT 26) (fun _ => False) w0.heap.size X) X Y →
        (∃ v, Boxed Y (w2.heap.size + 1) 37 v ∧ Y.ownsRow w0.heap.size 66 4 v (stAcc es pre).length ((stAcc es pre).flatMap stc) ∧ Boxed Y w.heap.size 24 (.slice A es.length c) ∧ Below w.heap.size w Y) := by
      rintro pre X Y ⟨v, h1, h2, h3, h4⟩ hx
      exact ⟨v, boxed_sideP h1 hx (fun h => h) (.inr (by omega)), own_sideP h2 hx (fun _ _ h => h) (by decide), boxed_sideP h3 hx (fun h => h) (.inr (by omega)), below_sideP h4 hx (fun _ h => h.elim) (by omega) (Nat.le_refl _)⟩
    refine wpIn_rangeIt2 (gf := 47) (lb := #[.pointer (some ⟨w2.heap.size + 2, 0, none⟩)]) rfl (enters_of Try.func47 (by kernel_rfl) rfl) (encs := encL) (xs := linesL es)
      (mine := fun _ => False) (needs := fun k => k < w.heap.size ∨ k = w2.heap.size + 2) (prot := protT 26) protT_cells
      (by intro k hk; exact hk.elim) (by intro k hk; omega)
      (fun W1 hx => lines_iter es _ w.heap.size _ W1 (by omega) ((hx.block _ (by omega)).trans bl) (hH.keep (fun k hk => hx.block k (by omega)))) (fun _ => rfl)
      (fun pre W => ∃ v, Boxed W (w2.heap.size + 1) 37 v ∧ W.ownsRow w0.heap.size 66 4 v (stAcc es pre).length ((stAcc es pre).flatMap stc) ∧ Boxed W w.heap.size 24 (.slice A es.length c) ∧ Below w.heap.size w W)
      (fun _ _ _ => False)
      hI (fun _ _ _ _ h _ => h) ⟨_, b7, World.ownsRow_nil _ _ _ _, b1, hbel0⟩ ?round ?done (fun _ _ _ _ _ _ _ h => h.elim)
    case round =>
      rintro l pre ⟨i, M⟩ post W hxs hi0 hlt
      obtain ⟨hpl, hbd1, hbd2⟩ := linesL_elem hxs
      dsimp only at hbd1 hbd2
      have hal := stAcc_len es pre
      dsimp only [encL, lnA]
      gi_wp2_with fail
      have hk1 : Below W.heap.size W (W.alloc (.cells #[.int .i64 M.s, .int .i64 M.h, .int .i64 M.e, .int .i64 M.t] 26)) := below_new _ _
      have hr1 : (W.alloc (.cells #[.int .i64 M.s, .int .i64 M.h, .int .i64 M.e, .int .i64 M.t] 26)).heap[W.heap.size]? = some (.cells #[.int .i64 M.s, .int .i64 M.h, .int .i64 M.e, .int .i64 M.t] 26) := newcell _ _
      refine ⟨keeps_belowF hk1, fun k hk => hk1.block k (by omega), KeepsP.below hk1, fun W₂ hx => ?_⟩
      have hi1 := hI _ _ _ hi0 (Ext.of_below hk1 (fun k h1 h2 => absurd h1 (by omega)))
      have hi2 := hI _ _ _ hi1 (side_of hx)
      have hr2 := cells_side hr1 hx (fun h => h)
      obtain ⟨d0, d1, d2, d3, _, _, _, _, lt1⟩ := ln_cells hr2
      have hW2 : W.heap.size < W₂.heap.size := heap_lt hr2
      have HXS := Lib.hid hxs
      have HI := Lib.hid hI
      clear hr1 hi0 hi1 hx hk1 hI b7 bl b1 hH hxs
      gi_wp2_with fail
      refine (CallsIn.inRound l ((callsIn_wide (n := 0)).2 (lused_any M W₂))).mono ?_
      rintro e W₃ ⟨rfl, hb3⟩
      have hi3 := HI.out _ _ _ hi2 (Ext.of_below hb3 (fun k h1 h2 => absurd h1 (by omega)))
      have hr3 := keepcell hr2 hb3
      have HN := Lib.hid (fun (k : Nat) (hk : k < W₂.heap.size) => hb3.block k hk)
      have HKB := keeps_belowF (B := w0.heap.size) hb3
      have HKP : KeepsP (protT 26) w0.heap.size W₂ W₃ := KeepsP.below hb3
      have hsz3 := hb3.size
      clear d0 d1 d2 d3 lt1 hr2 hi2 hb3
      obtain ⟨T, hT⟩ : ∃ T, T = toOf es (i + 1).toNat := ⟨_, rfl⟩
      have hacc := stAcc_snoc es pre (i, M)
      dsimp only at hacc
      rw [← hT] at hacc
      have HA := Lib.hid hacc
      have HT := Lib.hid hT
      clear hacc hT
      by_cases hu : Used M
      · rw [usedB_iff.2 hu]
        have HUM := Lib.hid hu
        obtain ⟨v, h1, h2, h3, h4⟩ := hi3
        obtain ⟨d0, d1, d2, d3, e0, e1, e2, e3, lt1⟩ := ln_cells hr3
        have k7 := h1.cell
        have k1 := h3.cell
        have l7 := heap_lt h1
        have l1 := heap_lt h3
        have si : IntKind.i64.wrap (i + 1) = i + 1 := IntWalk.i64_in _ (by omega)
        obtain ⟨k, hk⟩ := Int.eq_ofNat_of_zero_le (show 0 ≤ i + 1 by omega)
        have hk2 : (i + 1).toNat = k := by omega
        rw [hk2] at HT
        clear hu
        gi_upto_if 31 with fail
        gi_cut [10] from 31 (fun s10 wx => s10 = .int .i64 T ∧ wx = W₃)
        case first =>
          by_cases hin : k < es.length
          · have hT := HT.out
            rw [toOf_lt hin] at hT
            obtain ⟨x, hx⟩ : ∃ x, x = es[k] := ⟨_, rfl⟩
            rw [← hx] at hT
            obtain ⟨ad, rfl, hab, hat⟩ := rows_at evc_len (SP.out.below h4 (Nat.le_refl _)) (by decide) (List.getElem?_eq_getElem hin)
            rw [← hx] at hat
            have x1 := hat.ck 0 (u := .int .i64 x.a) rfl
            have z0 : (0 : Int) ≤ i + 1 := by omega
            have z1 : i + 1 < (es.length : Int) := by omega
            have HTX := Lib.hid hT
            clear hat hT hx
            gi_wp2_with fail
            gi_meet
            exact ⟨by rw [HTX.out], rfl⟩
          · have hT := HT.out
            rw [toOf_ge hin] at hT
            have z1 : ¬ i + 1 < (es.length : Int) := by omega
            have HTX := Lib.hid hT
            clear hT
            gi_wp2_with fail
            gi_meet
            exact ⟨by rw [HTX.out], rfl⟩
        case rest =>
          obtain ⟨rfl, hwc⟩ := hcut
          have hwc' := hwc.symm
          clear hwc
          subst hwc'
          by_cases hTe : M.t = T
          · have t1 : (M.t == T) = true := by simp [hTe]
            have HE := Lib.hid (show stS (stAcc es pre) M T = stAcc es pre from stS_no (fun h => h.2 hTe))
            clear hTe
            gi_wp2_with fail
            refine ⟨HKB, fun k hk => HN.out k (by omega), HKP, ?_⟩
            simp only [HA.out, HE.out]; exact ⟨v, h1, h2, h3, h4⟩
          · have t1 : (M.t == T) = false := by simp [hTe]
            have HUT := Lib.hid (show Used M ∧ M.t ≠ T from ⟨HUM.out, hTe⟩)
            clear hTe
            obtain ⟨i0, hi, hz0, hz1, hz2⟩ := info_parts infoSt
            rcases List.eq_nil_or_concat (stAcc es pre) with e | ⟨lst, q, e⟩
            · have HST := Lib.hid (show stS (stAcc es pre) M T = [] ++ [(⟨M.h, M.e, M.t, T⟩ : St)] by rw [e, stS_nil HUT.out]; rfl)
              rw [e] at h2
              obtain ⟨A7, c7, rfl, _, _⟩ := own_sl h2
              clear e
              simp only [List.length_nil] at k7
              gi_upto_region 14 with fail
              refine quietRound_region (by kernel_rfl) (by kernel_rfl) (by kernel_rfl) ?_
              repeat (gi_big_quiet_step (fail))
              refine wpQuietIn_nil ?_
              rintro W4 ⟨nq, hW4⟩
              have g1 : Boxed W4 (w2.heap.size + 1) 37 (.slice A7 0 c7) := by rw [hW4]; exact h1
              have g2 : W4.ownsRow w0.heap.size 66 4 (.slice A7 0 c7) 0 (([] : List St).flatMap stc) := by rw [hW4]; exact h2
              have g3 : Boxed W4 w.heap.size 24 (.slice A es.length c) := by rw [hW4]; exact h3
              have g4 : Below w.heap.size w W4 := by rw [hW4]; exact below_drewN h4 _
              have g5 : KeepsFrom w0.heap.size W₂ W4 := HKB.trans (by rw [hW4]; exact keeps_belowF (below_drewN (Below.refl _ _) _))
              have g6 : ∀ k, k < W₂.heap.size → W4.heap[k]? = W₂.heap[k]? := fun k hk => by rw [hW4]; exact HN.out k hk
              have g7 : KeepsP (protT 26) w0.heap.size W₂ W4 := HKP.trans (by rw [hW4]; exact KeepsP.below (below_drewN (Below.refl _ _) _))
              have hr4 : W4.heap[W.heap.size]? = some (.cells #[.int .i64 M.s, .int .i64 M.h, .int .i64 M.e, .int .i64 M.t] 26) := by rw [hW4]; exact hr3
              have hsz4 : W₃.heap.size ≤ W4.heap.size := by rw [hW4]; exact Nat.le_refl _
              have G6 := Lib.hid g6
              have k7' := g1.cell
              clear k7 k1 d0 d1 d2 d3 e0 e1 e2 e3 lt1 h1 h2 h3 h4 hW4 g6 hr3 l7 l1
              obtain ⟨d0, d1, d2, d3, _, _, _, _, lt1⟩ := ln_cells hr4
              gi_wp2_with (gi_at_builtin; refine wpListIn_append_own _ rfl _ _ 37 rfl w0.heap.size 66 i0 _ 4 32 Try.underlying37 hi hz0 hz1 hz2 rfl (by decide) _ _ _ rfl (g2.alloc _) ⟨W4.heap.size, 0, none⟩ 1 1 (stc ⟨M.h, M.e, M.t, T⟩) rfl rfl (news_st _ ⟨M.h, M.e, M.t, T⟩) (by simp [stc, Value.oneCell']) (by unfold maxLen; omega) (by omega) (by simp; omega) ?_; intro v' w1 hown' hgrow hnil; clear hnil; obtain ⟨hv1, hv2, hr2, hk2, hx2⟩ := append_st (l := ([] : List St)) (by simp) g1 g2 hown' hgrow; obtain ⟨g', cap', rfl⟩ := ownsRow_succ hown'; have hc2 := hv1.cell; have hf2 := hv1.frozen)
              refine ⟨g5.trans (hk2.from _), fun k hk => (hx2.block k (by omega) (by omega)).trans (G6.out k (by omega)), g7.trans (keepsP_row g2 (by decide) hx2 (by omega)), ?_⟩
              simp only [HA.out, HST.out]
              exact ⟨_, hv2, hr2, hx2.keeps g3 (by omega), g4.trans (hx2.below (by omega) (by omega))⟩
            · rw [List.concat_eq_append] at e
              have hll : lst.length + 1 ≤ 42 := by rw [e] at hal; simp at hal; omega
              rw [e] at h2
              obtain ⟨g', cap', rfl, hrb, hgl, hcap, hcm, c1, c2, hfz, hset⟩ := last_st h2
              have HST := Lib.hid (show stS (stAcc es pre) M T = if q.e = M.e ∧ q.t = M.t then lst ++ [⟨q.h, q.e, q.f, T⟩] else (lst ++ [q]) ++ [⟨M.h, M.e, M.t, T⟩] by rw [e, stS_snoc HUT.out])
              clear e hset
              have s1 : IntKind.i64.wrap (((lst.length + 1 : Nat) : Int) - 1) = (lst.length : Int) := by rw [IntWalk.i64_in _ (by omega)]; omega
              have s2 : (0 : Int) < ((lst.length + 1 : Nat) : Int) := by omega
              by_cases p1 : q.e = M.e
              · have b1 : (q.e == M.e) = true := by rw [beq_iff_eq]; exact p1
                by_cases p2 : q.t = M.t
                · have b2 : (q.t == M.t) = true := by rw [beq_iff_eq]; exact p2
                  have HIF := Lib.hid (show (if q.e = M.e ∧ q.t = M.t then lst ++ [(⟨q.h, q.e, q.f, T⟩ : St)] else (lst ++ [q]) ++ [⟨M.h, M.e, M.t, T⟩]) = lst ++ [⟨q.h, q.e, q.f, T⟩] from if_pos ⟨p1, p2⟩)
                  clear p1 p2
                  gi_upto_region 14 with fail
                  refine quietRound_region (by kernel_rfl) (by kernel_rfl) (by kernel_rfl) ?_
                  repeat (gi_big_quiet_step (fail))
                  refine wpQuietIn_nil ?_
                  rintro W4 ⟨nq, hW4⟩
                  have g1 : Boxed W4 (w2.heap.size + 1) 37 (.slice (some ⟨g', 0, none⟩) (lst.length + 1) cap') := by rw [hW4]; exact h1
                  have g2 : W4.ownsRow w0.heap.size 66 4 (.slice (some ⟨g', 0, none⟩) (lst.length + 1) cap') (lst ++ [q]).length ((lst ++ [q]).flatMap stc) := by rw [hW4]; exact h2
                  have g3 : Boxed W4 w.heap.size 24 (.slice A es.length c) := by rw [hW4]; exact h3
                  have g4 : Below w.heap.size w W4 := by rw [hW4]; exact below_drewN h4 _
                  have g5 : KeepsFrom w0.heap.size W₂ W4 := HKB.trans (by rw [hW4]; exact keeps_belowF (below_drewN (Below.refl _ _) _))
                  have g6 : ∀ k, k < W₂.heap.size → W4.heap[k]? = W₂.heap[k]? := fun k hk => by rw [hW4]; exact HN.out k hk
                  have g7 : KeepsP (protT 26) w0.heap.size W₂ W4 := HKP.trans (by rw [hW4]; exact KeepsP.below (below_drewN (Below.refl _ _) _))
                  have hr4 : W4.heap[W.heap.size]? = some (.cells #[.int .i64 M.s, .int .i64 M.h, .int .i64 M.e, .int .i64 M.t] 26) := by rw [hW4]; exact hr3
                  have hsz4 : W₃.heap.size ≤ W4.heap.size := by rw [hW4]; exact Nat.le_refl _
                  have G6 := Lib.hid g6
                  have k7' := g1.cell
                  clear k7 k1 d0 d1 d2 d3 e0 e1 e2 e3 lt1 h1 h2 h3 h4 hW4 g6 hr3 l7 l1
                  obtain ⟨_, _, hv, _, hgl4, _, _, c1', c2', hfz', hset'⟩ := last_st g2
                  cases hv
                  have HSET' := Lib.hid hset'
                  clear hset' hr4
                  gi_wp2_with fail
                  obtain ⟨r1, r2⟩ := HSET'.out T
                  refine ⟨g5.trans ((KeepsOthers.setCell _ _ _).from _), fun k hk => (Below.heap_setCell _ _ _ _ (by simp only; omega)).trans (G6.out k (by omega)), g7.trans (keepsP_row g2 (by decide) (B := w.heap.size) ((Ext.setCell (fun k => k = g') _ _ _ rfl).mono (fun k _ e => .inr ⟨by omega, by rw [e]; rfl⟩)) (by omega)), ?_⟩
                  simp only [HA.out, HST.out, HIF.out]
                  exact ⟨_, g1.kept r2 (by simp; omega), r1, g3.kept r2 (by simp; omega), g4.grown r2 (Nat.le_trans (by omega) g4.size) (by intro j hj; simp at hj; omega)⟩
                · have b2 : (q.t == M.t) = false := by rw [beq_eq_false_iff_ne]; exact p2
                  have HIF := Lib.hid (show (if q.e = M.e ∧ q.t = M.t then lst ++ [(⟨q.h, q.e, q.f, T⟩ : St)] else (lst ++ [q]) ++ [⟨M.h, M.e, M.t, T⟩]) = (lst ++ [q]) ++ [⟨M.h, M.e, M.t, T⟩] from if_neg (fun h => p2 h.2))
                  clear p1 p2
                  rw [List.length_append, List.length_singleton] at h2
                  gi_upto_region 14 with fail
                  refine quietRound_region (by kernel_rfl) (by kernel_rfl) (by kernel_rfl) ?_
                  repeat (gi_big_quiet_step (fail))
                  refine wpQuietIn_nil ?_
                  rintro W4 ⟨nq, hW4⟩
                  have g1 : Boxed W4 (w2.heap.size + 1) 37 (.slice (some ⟨g', 0, none⟩) (lst.length + 1) cap') := by rw [hW4]; exact h1
                  have g2 : W4.ownsRow w0.heap.size 66 4 (.slice (some ⟨g', 0, none⟩) (lst.length + 1) cap') (lst.length + 1) ((lst ++ [q]).flatMap stc) := by rw [hW4]; exact h2
                  have g3 : Boxed W4 w.heap.size 24 (.slice A es.length c) := by rw [hW4]; exact h3
                  have g4 : Below w.heap.size w W4 := by rw [hW4]; exact below_drewN h4 _
                  have g5 : KeepsFrom w0.heap.size W₂ W4 := HKB.trans (by rw [hW4]; exact keeps_belowF (below_drewN (Below.refl _ _) _))
                  have g6 : ∀ k, k < W₂.heap.size → W4.heap[k]? = W₂.heap[k]? := fun k hk => by rw [hW4]; exact HN.out k hk
                  have g7 : KeepsP (protT 26) w0.heap.size W₂ W4 := HKP.trans (by rw [hW4]; exact KeepsP.below (below_drewN (Below.refl _ _) _))
                  have hr4 : W4.heap[W.heap.size]? = some (.cells #[.int .i64 M.s, .int .i64 M.h, .int .i64 M.e, .int .i64 M.t] 26) := by rw [hW4]; exact hr3
                  have hsz4 : W₃.heap.size ≤ W4.heap.size := by rw [hW4]; exact Nat.le_refl _
                  have G6 := Lib.hid g6
                  have k7' := g1.cell
                  clear k7 k1 d0 d1 d2 d3 e0 e1 e2 e3 lt1 h1 h2 h3 h4 hW4 g6 hr3 l7 l1
                  clear c1 c2 hfz
                  obtain ⟨d0, d1, d2, d3, _, _, _, _, lt1⟩ := ln_cells hr4
                  gi_wp2_with (gi_at_builtin; refine wpListIn_append_own _ rfl _ _ 37 rfl w0.heap.size 66 i0 _ 4 32 Try.underlying37 hi hz0 hz1 hz2 rfl (by decide) _ _ _ rfl (g2.alloc _) ⟨W4.heap.size, 0, none⟩ 1 1 (stc ⟨M.h, M.e, M.t, T⟩) rfl rfl (news_st _ ⟨M.h, M.e, M.t, T⟩) (by simp [stc, Value.oneCell']) (by unfold maxLen; omega) (by omega) (by simp; omega) ?_; intro v' w1 hown' hgrow hnil; clear hnil; obtain ⟨hv1, hv2, hr2, hk2, hx2⟩ := append_st (l := (lst ++ [q])) (by simp) g1 g2 hown' hgrow; obtain ⟨g', cap', rfl⟩ := ownsRow_succ hown'; have hc2 := hv1.cell; have hf2 := hv1.frozen)
                  refine ⟨g5.trans (hk2.from _), fun k hk => (hx2.block k (by omega) (by omega)).trans (G6.out k (by omega)), g7.trans (keepsP_row g2 (by decide) hx2 (by omega)), ?_⟩
                  simp only [HA.out, HST.out, HIF.out]
                  exact ⟨_, hv2, hr2, hx2.keeps g3 (by omega), g4.trans (hx2.below (by omega) (by omega))⟩
              · have b1 : (q.e == M.e) = false := by rw [beq_eq_false_iff_ne]; exact p1
                have HIF := Lib.hid (show (if q.e = M.e ∧ q.t = M.t then lst ++ [(⟨q.h, q.e, q.f, T⟩ : St)] else (lst ++ [q]) ++ [⟨M.h, M.e, M.t, T⟩]) = (lst ++ [q]) ++ [⟨M.h, M.e, M.t, T⟩] from if_neg (fun h => p1 h.1))
                clear p1
                rw [List.length_append, List.length_singleton] at h2
                gi_upto_region 14 with fail
                refine quietRound_region (by kernel_rfl) (by kernel_rfl) (by kernel_rfl) ?_
                repeat (gi_big_quiet_step (fail))
                refine wpQuietIn_nil ?_
                rintro W4 ⟨nq, hW4⟩
                have g1 : Boxed W4 (w2.heap.size + 1) 37 (.slice (some ⟨g', 0, none⟩) (lst.length + 1) cap') := by rw [hW4]; exact h1
                have g2 : W4.ownsRow w0.heap.size 66 4 (.slice (some ⟨g', 0, none⟩) (lst.length + 1) cap') (lst.length + 1) ((lst ++ [q]).flatMap stc) := by rw [hW4]; exact h2
                have g3 : Boxed W4 w.heap.size 24 (.slice A es.length c) := by rw [hW4]; exact h3
                have g4 : Below w.heap.size w W4 := by rw [hW4]; exact below_drewN h4 _
                have g5 : KeepsFrom w0.heap.size W₂ W4 := HKB.trans (by rw [hW4]; exact keeps_belowF (below_drewN (Below.refl _ _) _))
                have g6 : ∀ k, k < W₂.heap.size → W4.heap[k]? = W₂.heap[k]? := fun k hk => by rw [hW4]; exact HN.out k hk
                have g7 : KeepsP (protT 26) w0.heap.size W₂ W4 := HKP.trans (by rw [hW4]; exact KeepsP.below (below_drewN (Below.refl _ _) _))
                have hr4 : W4.heap[W.heap.size]? = some (.cells #[.int .i64 M.s, .int .i64 M.h, .int .i64 M.e, .int .i64 M.t] 26) := by rw [hW4]; exact hr3
                have hsz4 : W₃.heap.size ≤ W4.heap.size := by rw [hW4]; exact Nat.le_refl _
                have G6 := Lib.hid g6
                have k7' := g1.cell
                clear k7 k1 d0 d1 d2 d3 e0 e1 e2 e3 lt1 h1 h2 h3 h4 hW4 g6 hr3 l7 l1
                clear c1 c2 hfz
                obtain ⟨d0, d1, d2, d3, _, _, _, _, lt1⟩ := ln_cells hr4
                gi_wp2_with (gi_at_builtin; refine wpListIn_append_own _ rfl _ _ 37 rfl w0.heap.size 66 i0 _ 4 32 Try.underlying37 hi hz0 hz1 hz2 rfl (by decide) _ _ _ rfl (g2.alloc _) ⟨W4.heap.size, 0, none⟩ 1 1 (stc ⟨M.h, M.e, M.t, T⟩) rfl rfl (news_st _ ⟨M.h, M.e, M.t, T⟩) (by simp [stc, Value.oneCell']) (by unfold maxLen; omega) (by omega) (by simp; omega) ?_; intro v' w1 hown' hgrow hnil; clear hnil; obtain ⟨hv1, hv2, hr2, hk2, hx2⟩ := append_st (l := (lst ++ [q])) (by simp) g1 g2 hown' hgrow; obtain ⟨g', cap', rfl⟩ := ownsRow_succ hown'; have hc2 := hv1.cell; have hf2 := hv1.frozen)
                refine ⟨g5.trans (hk2.from _), fun k hk => (hx2.block k (by omega) (by omega)).trans (G6.out k (by omega)), g7.trans (keepsP_row g2 (by decide) hx2 (by omega)), ?_⟩
                simp only [HA.out, HST.out, HIF.out]
                exact ⟨_, hv2, hr2, hx2.keeps g3 (by omega), g4.trans (hx2.below (by omega) (by omega))⟩
      · have HU := Lib.hid (Bool.eq_false_iff.2 (fun h => hu (usedB_iff.1 h)))
        have HE := Lib.hid (show stS (stAcc es pre) M T = stAcc es pre from stS_no (fun h => hu h.1))
        clear hu
        rw [HU.out]
        gi_wp2_with fail
        refine ⟨HKB, fun k hk => HN.out k (by omega), HKP, ?_⟩
        simp only [HA.out, HE.out]; exact hi3
    case done =>
      rintro D W ⟨v, h1, h2, h3, h4⟩ hD hK
      rw [stAcc_all HL.out.1] at h2
      have HR := Lib.hid (show staysR es = (staysL es, 0) from if_pos HL.out)
      obtain ⟨A', c', rfl, hl', hcm⟩ := own_sl h2
      have hcell := h1.cell
      have HH := Lib.hid (HoldsG.of_own h2)
      have hend : Below w.heap.size w (W.putObj D (.deferred none)) := h4.trans ((Ext.putObj (fun k => w0.heap.size ≤ k) _ _ _ hD).below (by intros; omega) (by have := h4.size; omega))
      have HSD := Lib.hid (show (W.putObj D (.deferred none)).heap.size = W.heap.size by simp)
      clear h1 h2 h3 hI b7 bl b1 hH
      gi_wp2_with fail
      refine ⟨by simp; try omega, .inl ⟨_, _, rfl, run_takeDeferred hK, ?_⟩⟩
      exact ⟨_, results_tmp2 rfl _ _ _, .slice A' (staysL es).length c', by rw [HR.out]; rfl, by rw [HSD.out, HR.out]; exact holdsG_put hK rfl HH.out, hend⟩
  · rw [runR_no hl]
    dsimp only [lnA, zero]
    rintro e w2 ⟨rfl, hb2⟩
    have HR := Lib.hid (show staysR es = ([], 140) from if_neg hl)
    have HBB := Lib.hid (below_then (below_then HB1.out hb2) (below_new w2 (.cells #[.int .i64 0, .int .i64 0, .int .i64 0, .int .i64 0] 26)))
    clear hl k1
    gi_wp2_with fail
    exact ⟨_, results_tmp2 rfl _ _ _, .slice none 0 0, by rw [HR.out]; rfl, by rw [HR.out]; exact HoldsG.nil _ _, HBB.out⟩
end Go.Proofs.Ytjhakonpnopcnaa
