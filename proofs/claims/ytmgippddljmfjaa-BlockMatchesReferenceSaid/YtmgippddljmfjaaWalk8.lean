/-
  block.combine: the map in which a number is held as a function says of those who hold it in two maps.
-/
import Derived.Test.YtmgippddljmfjaaWalk7
import Derived.Deep.AppendLies
import Derived.Test.YtmgippddljmfjaaRound
namespace Go.Proofs.Ytmgippddljmfjaa
open Go Go.RowKit Go.Dial Go.Dial.Blk
attribute [local go_sem] Oper.semAt_some


def foldS (g : Int → Int → Int) (ps : List (Int × Int × Int × Int)) : List B3 := ps.foldl (fun o p => Blk.step o p.1 p.2.1 (g p.2.2.1 p.2.2.2)) []
theorem foldS_snoc (g : Int → Int → Int) (ps : List (Int × Int × Int × Int)) (p : Int × Int × Int × Int) : foldS g (ps ++ [p]) = Blk.step (foldS g ps) p.1 p.2.1 (g p.2.2.1 p.2.2.2) := by simp [foldS]
theorem step_len (o : List B3) (f t k : Int) : (Blk.step o f t k).length ≤ o.length + 1 := by
  by_cases hk : k = -1
  · subst hk; rw [step_none]; omega
  · rcases List.eq_nil_or_concat o with rfl | ⟨l, y, rfl⟩
    · rw [step_nil _ _ _ hk]; simp
    · rw [List.concat_eq_append, step_snoc _ _ _ _ _ hk]; split <;> simp
theorem foldS_len (g : Int → Int → Int) (ps : List (Int × Int × Int × Int)) : (foldS g ps).length ≤ ps.length := by
  obtain ⟨n, hn⟩ : ∃ n, n = ps.length := ⟨_, rfl⟩
  induction n generalizing ps with
  | zero => rw [List.length_eq_zero_iff.1 hn.symm]; simp [foldS]
  | succ n ih =>
    rcases List.eq_nil_or_concat ps with rfl | ⟨l, y, rfl⟩
    · simp at hn
    · rw [List.concat_eq_append] at hn ⊢
      rw [foldS_snoc]
      have := ih l (by simp at hn; omega)
      have := step_len (foldS g l) y.1 y.2.1 (g y.2.2.1 y.2.2.2)
      simp; omega
theorem pieces_len (a b : List B3) (n : Int) : ((pieces a b n).length : Int) ≤ 100000000 - n ∨ pieces a b n = [] := by
  obtain ⟨d, hd⟩ : ∃ d, d = (100000000 - n).toNat := ⟨_, rfl⟩
  induction d using Nat.strongRecOn generalizing a b n with
  | _ d ih =>
    by_cases h : n < 100000000
    · have h1 := at_gt a h
      have h2 := at_gt b h
      rw [pieces_cons a b h]
      rcases ih ((100000000 - min (at_ a n).2.2 (at_ b n).2.2).toNat) (by omega) (at_ a n).1 (at_ b n).1 _ rfl with h3 | h3
      · left; simp; omega
      · left; rw [h3]; simp; omega
    · exact .inr (pieces_end a b h)

theorem keeps_below {B : Nat} {X Y : World} (h : Below X.heap.size X Y) : KeepsFrom B X Y :=
  ⟨h.size, fun k _ _ hk _ => (h.block k (Array.getElem?_eq_some_iff.1 hk).1).trans hk⟩

theorem span_put {W : World} {B sz n D : Nat} {A : Option Addr} {cs : List Value} {o o' : Obj} (hK : W.heap[D]? = some o') (hc : o'.isCells = false) (h : Span W B sz A n cs) : Span (W.putObj D o) B sz A n cs := by
  refine ⟨h.1, fun j u hu => ?_⟩
  obtain ⟨a, e, hb, hcell⟩ := h.2 j u hu
  refine ⟨a, e, hb, ?_⟩
  by_cases hd : (a.add j).block = D
  · exfalso
    unfold World.cell? at hcell
    rw [hd, hK] at hcell
    cases o' <;> simp [Obj.isCells] at hc hcell
  · exact (World.cell?_of_block (World.putObj_heap_other hd)).trans hcell
theorem holds_put {W : World} {B D : Nat} {v : Value} {bs : List B3} {o o' : Obj} (hK : W.heap[D]? = some o') (hc : o'.isCells = false) (h : HoldsB W B v bs) : HoldsB (W.putObj D o) B v bs := by
  obtain ⟨A, c, rfl, h1, h2, h3⟩ := h
  exact ⟨A, c, rfl, h1, h2, span_put hK hc h3⟩
theorem holds_nil (W : World) (B : Nat) : HoldsB W B (.slice none 0 0) [] := ⟨none, 0, rfl, Nat.le_refl _, Nat.zero_le _, Span.nil _ _ _ _⟩
theorem info53 : (Try.prog.info? 53).map (fun i => (i.zero, i.size, i.bytes)) = some (some (.agg #[.int .i64 0, .int .i64 0, .int .i64 0]), 3, 24) := by kernel_rfl
theorem bcs_snoc (l : List B3) (b : B3) : bcs (l ++ [b]) = bcs l ++ bcells b := by simp [bcs]
/-- the last block of a row -/
theorem last_blk {W : World} {rb : Nat} {v : Value} {l : List B3} {y : B3} (h : W.ownsRow rb 53 3 v (l ++ [y]).length (bcs (l ++ [y]))) :
    ∃ g cap, v = .slice (some ⟨g, 0, none⟩) (l.length + 1) cap ∧ rb ≤ g ∧ g < W.heap.size ∧ l.length + 1 ≤ cap ∧ cap ≤ maxLen ∧ W.cell? ⟨g, l.length * 3 + 1, none⟩ = some (.int .i64 y.t) ∧ W.cell? ⟨g, l.length * 3 + 2, none⟩ = some (.int .i64 y.c) ∧ W.frozen? ⟨g, l.length * 3 + 1, none⟩ = false ∧
      ∀ u : Int, (W.setCell ⟨g, l.length * 3 + 1, none⟩ (.int .i64 u)).ownsRow rb 53 3 v (l ++ [(⟨y.f, u, y.c⟩ : B3)]).length (bcs (l ++ [⟨y.f, u, y.c⟩])) ∧ W.grownBy (W.setCell ⟨g, l.length * 3 + 1, none⟩ (.int .i64 u)) (some g) := by
  rw [List.length_append, List.length_singleton] at h
  have hlt : ∃ g cap, v = .slice (some ⟨g, 0, none⟩) (l.length + 1) cap ∧ rb ≤ g ∧ g < W.heap.size ∧ l.length + 1 ≤ cap ∧ cap ≤ maxLen := by
    rcases h.2 with ⟨_, hn⟩ | ⟨g, cap, cur, rfl, hb, hg, h1, h2, _⟩
    · omega
    · exact ⟨g, cap, rfl, hb, (Array.getElem?_eq_some_iff.1 hg).1, h1, h2⟩
  obtain ⟨g, cap, rfl, h1, h2, h3, h4⟩ := hlt
  have hb := bcs_len l
  have e1 : (bcs (l ++ [y]))[l.length * 3 + 1]? = some (.int .i64 y.t) := by rw [bcs_snoc, List.getElem?_append_right (by omega), hb]; simp [bcells]
  have e2 : (bcs (l ++ [y]))[l.length * 3 + 2]? = some (.int .i64 y.c) := by rw [bcs_snoc, List.getElem?_append_right (by omega), hb]; simp [bcells]
  refine ⟨g, cap, rfl, h1, h2, h3, h4, (h.cellAt _ (by omega)).trans e1, (h.cellAt _ (by omega)).trans e2, h.frozenAt _, fun u => ?_⟩
  obtain ⟨s1, s2⟩ := h.stored (l.length * 3 + 1) (.int .i64 u)
  refine ⟨?_, s2⟩
  have e3 : (bcs (l ++ [y])).set (l.length * 3 + 1) (.int .i64 u) = bcs (l ++ [⟨y.f, u, y.c⟩]) := by
    rw [bcs_snoc, bcs_snoc, List.set_append_right _ _ (by omega), hb]; simp [bcells]
  rw [e3] at s1
  simpa using s1

theorem news_blk (W : World) (b : B3) : ∀ j u, (bcells b)[j]? = some u → (W.alloc (.cells #[.int .i64 b.f, .int .i64 b.t, .int .i64 b.c] 53)).cell? ((⟨W.heap.size, 0, none⟩ : Addr).add j) = some u :=
  World.news_of_block (cs := #[.int .i64 b.f, .int .i64 b.t, .int .i64 b.c]) (new_heap _ _)
theorem own_slice {W : World} {rb : Nat} {e : TypeId} {sz n : Nat} {v : Value} {xs : List Value} (h : W.ownsRow rb e sz v n xs) : ∃ A c, v = .slice A n c ∧ n ≤ c ∧ c ≤ maxLen := by
  rcases h.2 with ⟨rfl, rfl⟩ | ⟨g, cap, cur, rfl, _, _, h1, h2, _⟩
  · exact ⟨none, 0, rfl, Nat.le_refl _, Nat.zero_le _⟩
  · exact ⟨_, _, rfl, h1, h2⟩
theorem append_blk {W w1 : World} {rb B n : Nat} {v v' : Value} {l : List B3} {b : B3} {tmp : Obj} (hn : l.length = n) (hv : Boxed W B 24 v) (hrow : W.ownsRow rb 53 3 v n (bcs l)) (hown' : w1.ownsRow rb 53 3 v' (n + 1) (bcs l ++ bcells b)) (hgrow : (W.alloc tmp).grownBy w1 v.ownBlock) :
    Boxed w1 B 24 v ∧ Boxed (w1.setCell ⟨B, 0, none⟩ v') B 24 v' ∧ (w1.setCell ⟨B, 0, none⟩ v').ownsRow rb 53 3 v' (l ++ [b]).length (bcs (l ++ [b])) ∧ KeepsOthers W (w1.setCell ⟨B, 0, none⟩ v') ∧ Ext (fun k => k = B ∨ rb ≤ k) W (w1.setCell ⟨B, 0, none⟩ v') := by
  subst hn
  obtain ⟨h1, h2, h3, h4, h5⟩ := box_append hv (by decide) hrow hown' hgrow
  exact ⟨h1, h2, by rw [bcs_snoc]; simpa using h3, h4, h5⟩

set_option maxRecDepth 100000 in
set_option maxHeartbeats 1600000 in
theorem combine_any (A0 A1 : Option Addr) (c0 c1 : Nat) (a b : List B3) (fn : Nat) (cap : Array Value) (g : Int → Int → Int) (w : World)
    (hl0 : a.length ≤ c0) (hc0 : c0 ≤ maxLen) (hl1 : b.length ≤ c1) (hc1 : c1 ≤ maxLen) (sp0 : Span w w.heap.size 3 A0 a.length (bcs a)) (sp1 : Span w w.heap.size 3 A1 b.length (bcs b)) (ha : Some a) (hb : Some b)
    (hcall : ∀ args w, (callFunc fn args).run Try.prog w = .ok (.enter fn args) w)
    (hf : ∀ x y W, Below w.heap.size w W → Calls Try.prog fn (#[.int .i64 x, .int .i64 y] ++ cap) W fun e W' => e = .returned (.int .i64 (g x y)) ∧ Below W.heap.size W W') :
    Calls Try.prog 49 #[.slice A0 a.length c0, .slice A1 b.length c1, .func (.func fn) #[] cap] w fun e w' => ∃ v, e = .returned (.tuple #[v, .int .i64 (if (foldS g (pieces a b 0)).length ≤ 40 then 0 else 130)]) ∧ HoldsB w' w'.heap.size v (if (foldS g (pieces a b 0)).length ≤ 40 then foldS g (pieces a b 0) else []) ∧ Below w.heap.size w w' := by
  refine (callsIn_wide (n := 0)).1 (callsIn_of_wp_marks Try.func49 rfl trivial ?_)
  simp only [Try.ntmps49, List.size_toArray, List.length_cons, List.length_nil, Nat.reduceAdd, Nat.reduceSub, Array.replicate_succ, Array.replicate_zero, List.push_toArray, List.append_toArray, List.nil_append, List.cons_append]
  have SP0 := Lib.hid sp0
  have SP1 := Lib.hid sp1
  have HF := Lib.hid hf
  have HCALL := Lib.hid hcall
  clear sp0 sp1 hf hcall
  gi_wp2_with fail
  refine ((callsIn_wide (n := 0)).2 (pieces_any _ _ _ _ _ _ _)).mono ?_
  rintro e w' ⟨rfl, rfl⟩
  gi_wp2_with fail
  obtain ⟨w0, hw0⟩ : ∃ w0, w0 = (((((w.alloc (Obj.cells #[Value.func (Fn.func fn) #[] cap] 33)).alloc (Obj.cells #[Value.slice none 0 0] 24)).alloc
              (Obj.cells #[Value.slice A0 a.length c0] 24)).alloc (Obj.cells #[Value.slice A1 b.length c1] 24)).alloc (Obj.cells #[Value.func (Fn.func 66) #[] #[]] 78)) := ⟨_, rfl⟩
  rw [← hw0]
  have hsz : w0.heap.size = w.heap.size + 5 := by rw [hw0]; simp
  have b0 : Boxed w0 w.heap.size 33 (.func (.func fn) #[] cap) := by
    rw [hw0]; exact ((((Boxed.new w 33 _).alloc _).alloc _).alloc _).alloc _
  have b1 : Boxed w0 (w.heap.size + 1) 24 (.slice none 0 0) := by
    rw [hw0]; refine Boxed.alloc (Boxed.alloc (Boxed.alloc ?_ _) _) _; have := Boxed.new (w.alloc (.cells #[.func (.func fn) #[] cap] 33)) 24 (.slice none 0 0); rwa [World.size_alloc] at this
  have b2 : Boxed w0 (w.heap.size + 2) 24 (.slice A0 a.length c0) := by
    rw [hw0]; refine Boxed.alloc (Boxed.alloc ?_ _) _; have := Boxed.new ((w.alloc (.cells #[.func (.func fn) #[] cap] 33)).alloc (.cells #[.slice none 0 0] 24)) 24 (.slice A0 a.length c0); simpa using this
  have b3 : Boxed w0 (w.heap.size + 3) 24 (.slice A1 b.length c1) := by
    rw [hw0]; refine Boxed.alloc ?_ _; have := Boxed.new (((w.alloc (.cells #[.func (.func fn) #[] cap] 33)).alloc (.cells #[.slice none 0 0] 24)).alloc (.cells #[.slice A0 a.length c0] 24)) 24 (.slice A1 b.length c1); simpa using this
  have b4 : Boxed w0 (w.heap.size + 4) 78 (.func (.func 66) #[] #[]) := by
    rw [hw0]; have := Boxed.new ((((w.alloc (.cells #[.func (.func fn) #[] cap] 33)).alloc (.cells #[.slice none 0 0] 24)).alloc (.cells #[.slice A0 a.length c0] 24)).alloc (.cells #[.slice A1 b.length c1] 24)) 78 (.func (.func 66) #[] #[]); simpa using this
  have hbel0 : Below w.heap.size w w0 := by
    rw [hw0]; exact (((((Below.refl _ w).alloc (Nat.le_refl _) _).alloc (by simp) _).alloc (by simp; omega) _).alloc (by simp; omega) _).alloc (by simp; omega) _
  have h0A : HoldsB w0 w.heap.size (.slice A0 a.length c0) a := ⟨_, _, rfl, hl0, hc0, SP0.out.below hbel0 (Nat.le_refl _)⟩
  have h0B : HoldsB w0 w.heap.size (.slice A1 b.length c1) b := ⟨_, _, rfl, hl1, hc1, SP1.out.below hbel0 (Nat.le_refl _)⟩
  clear hw0
  have hI : ∀ (pre : List (Int × Int × Int × Int)) (X Y : World), (∃ v, Boxed X (w.heap.size + 1) 24 v ∧ X.ownsRow (w.heap.size + 5) 53 3 v (foldS g pre).length (bcs (foldS g pre)) ∧ Boxed X w.heap.size 33 (.func (.func fn) #[] cap) ∧ Below w.heap.size w X) →
      Ext (sideOf (fun k => k = w.heap.size + 2 ∨ k = w.heap.size + 3) w0.heap.size X) X Y →
      (∃ v, Boxed Y (w.heap.size + 1) 24 v ∧ Y.ownsRow (w.heap.size + 5) 53 3 v (foldS g pre).length (bcs (foldS g pre)) ∧ Boxed Y w.heap.size 33 (.func (.func fn) #[] cap) ∧ Below w.heap.size w Y) := by
    rintro pre X Y ⟨v, h1, h2, h3, h4⟩ hx
    exact ⟨v, boxed_side h1 hx (by omega), own_side h2 hx (by intro k hk; omega), boxed_side h3 hx (by omega), below_side h4 hx (by intro k hk; omega) (by omega) (Nat.le_refl _)⟩
  refine wpIn_rangeIt (gf := 67) (lb := #[.pointer (some ⟨w.heap.size + 4, 0, none⟩), .pointer (some ⟨w.heap.size + 2, 0, none⟩), .pointer (some ⟨w.heap.size + 3, 0, none⟩)]) rfl (enters_of Try.func67 (by kernel_rfl) rfl) (encs := encP) (xs := pieces a b 0)
    (mine := fun k => k = w.heap.size + 2 ∨ k = w.heap.size + 3) (needs := fun k => k < w.heap.size ∨ k = w.heap.size + 2 ∨ k = w.heap.size + 3 ∨ k = w.heap.size + 4)
    (by intro k hk; omega) (by intro k hk; omega)
    (fun W1 hx => pieces_iter a b _ _ _ w.heap.size W1 ha hb _ _ (by omega) (by omega) (by omega) (by omega) (by omega) (by omega) ((hx.block _ (by omega)).trans b4) ((hx.block _ (by omega)).trans b2) ((hx.block _ (by omega)).trans b3)
      (h0A.keep (fun k hk => hx.block k (by omega))) (h0B.keep (fun k hk => hx.block k (by omega)))) (fun _ => rfl)
    (fun pre W => ∃ v, Boxed W (w.heap.size + 1) 24 v ∧ W.ownsRow (w.heap.size + 5) 53 3 v (foldS g pre).length (bcs (foldS g pre)) ∧ Boxed W w.heap.size 33 (.func (.func fn) #[] cap) ∧ Below w.heap.size w W)
    (fun _ _ _ => False)
    hI (fun _ _ _ _ h _ => h) ⟨_, b1, World.ownsRow_nil _ _ _ _, b0, hbel0⟩ ?round ?done (fun _ _ _ _ _ _ _ h => h.elim)
  case round =>
    rintro l pre ⟨f, t, x, y⟩ post W hxs hi0 hlt
    dsimp only [encP]
    gi_wp2_with fail
    have hk1 : Below W.heap.size W ((W.alloc (Obj.cells #[Value.int IntKind.i64 f, Value.int IntKind.i64 t] 26)).alloc (Obj.cells #[Value.int IntKind.i64 x, Value.int IntKind.i64 y] 35)) := ((Below.refl _ W).alloc (Nat.le_refl _) _).alloc (by simp) _
    have hr1 : ((W.alloc (Obj.cells #[Value.int IntKind.i64 f, Value.int IntKind.i64 t] 26)).alloc (Obj.cells #[Value.int IntKind.i64 x, Value.int IntKind.i64 y] 35)).heap[W.heap.size]? = some (.cells #[.int .i64 f, .int .i64 t] 26) := alloc_old _ (new_heap _ _)
    have hr2 : ((W.alloc (Obj.cells #[Value.int IntKind.i64 f, Value.int IntKind.i64 t] 26)).alloc (Obj.cells #[Value.int IntKind.i64 x, Value.int IntKind.i64 y] 35)).heap[W.heap.size + 1]? = some (.cells #[.int .i64 x, .int .i64 y] 35) := by
      have := new_heap (W.alloc (Obj.cells #[Value.int IntKind.i64 f, Value.int IntKind.i64 t] 26)) (Obj.cells #[Value.int IntKind.i64 x, Value.int IntKind.i64 y] 35); rwa [World.size_alloc] at this
    refine ⟨keeps_below hk1, fun k hk => hk1.block k (by omega), fun W₂ hx => ?_⟩
    have hi1 := hI _ _ _ hi0 (Ext.of_below hk1 (fun k h1 h2 => absurd h1 (by omega)))
    have hi2 := hI _ _ _ hi1 hx
    have hr3 := hx.keeps hr1 (fun hs => by
      rcases hs with hs | ⟨_, o, ho, hc⟩
      · omega
      · rw [hr1] at ho; cases ho; cases hc)
    have hr4 := hx.keeps hr2 (fun hs => by
      rcases hs with hs | ⟨_, o, ho, hc⟩
      · omega
      · rw [hr2] at ho; cases ho; cases hc)
    clear hr1 hr2 hk1 hi0 hi1 hx b1 b2 b3 b4 h0A h0B
    obtain ⟨v, h1, h2, h3, h4⟩ := hi2
    have c33 := h3.cell
    have x0 := blk_cell (cs := [.int .i64 x, .int .i64 y]) hr4 (i := 0) rfl
    have x1 := blk_cell (cs := [.int .i64 x, .int .i64 y]) hr4 (i := 1) rfl
    have hcall' := HCALL.out
    have HXS := Lib.hid hxs
    clear hxs
    gi_wp2_with fail
    refine (CallsIn.inRound l ((callsIn_wide (n := 0)).2 (HF.out x y W₂ h4))).mono ?_
    rintro e W₃ ⟨rfl, hb3⟩
    obtain ⟨k, hk⟩ : ∃ k, k = g x y := ⟨_, rfl⟩
    have hfo : foldS g (pre ++ [(f, t, x, y)]) = Blk.step (foldS g pre) f t k := by rw [foldS_snoc, hk]
    have HFO := Lib.hid hfo
    have HK := Lib.hid hk
    rw [← hk]
    have hr := (hb3.block _ (Array.getElem?_eq_some_iff.1 hr3).1).trans hr3
    have hW2 : W.heap.size < W₂.heap.size := (Array.getElem?_eq_some_iff.1 hr3).1
    have hlen : (foldS g pre).length ≤ 100000000 := by
      have h9 := congrArg List.length HXS.out
      have h8 := foldS_len g pre
      rcases pieces_len a b 0 with h7 | h7
      · simp at h9; omega
      · rw [h7] at h9; simp at h9
    have hi3 := hI _ _ _ ⟨v, h1, h2, h3, h4⟩ (Ext.of_below hb3 (fun k h1 h2 => absurd h1 (by omega)))
    have hneed : ∀ k, k < W₂.heap.size → W₃.heap[k]? = W₂.heap[k]? := fun k hk => hb3.block k hk
    have HKB := keeps_below (B := w0.heap.size) hb3
    have HN := Lib.hid hneed
    have HI := Lib.hid hI
    clear hr3 hr4 h1 h2 h3 h4 c33 x0 x1 hcall' hfo hk hneed hI b0
    by_cases hkn : k = -1
    · have t1 : (k == -1) = true := by rw [beq_iff_eq]; exact hkn
      have hst : Blk.step (foldS g pre) f t k = foldS g pre := by rw [hkn, step_none]
      have HST := Lib.hid hst
      clear hkn hst
      gi_wp2_with fail
      refine ⟨HKB, fun k hk => HN.out k (by omega), ?_⟩
      simp only [HFO.out, HST.out]; exact hi3
    · have t1 : (k == -1) = false := by rw [beq_eq_false_iff_ne]; exact hkn
      obtain ⟨v, h1, h2, h3, h4⟩ := hi3
      have hc1 := h1.cell
      have hsz3 := hb3.size
      have hlB := h1.lt
      obtain ⟨i0, hi, hz0, hz1, hz2⟩ := info_parts info53
      rcases List.eq_nil_or_concat (foldS g pre) with e | ⟨lst, q, e⟩
      · have hst : Blk.step (foldS g pre) f t k = [] ++ [⟨f, t, k⟩] := by rw [e, step_nil _ _ _ hkn]; rfl
        have HST := Lib.hid hst
        rw [e] at h2
        obtain ⟨A, c, rfl, _, _⟩ := own_slice h2
        clear hkn hst e
        have hq0 := blk_cell (cs := [.int .i64 f, .int .i64 t]) hr (i := 0) rfl
        have hq1 := blk_cell (cs := [.int .i64 f, .int .i64 t]) hr (i := 1) rfl
        simp only [List.length_nil] at hc1
        gi_upto_region 8 with fail
        refine quietRound_region (by kernel_rfl) (by kernel_rfl) (by kernel_rfl) ?_
        repeat (gi_big_quiet_step (fail))
        refine wpQuietIn_nil ?_
        rintro W4 ⟨nq, hW4⟩
        have g1 : Boxed W4 (w.heap.size + 1) 24 (.slice A 0 c) := by rw [hW4]; exact h1
        have g2 : W4.ownsRow (w.heap.size + 5) 53 3 (.slice A 0 c) 0 (bcs ([] : List B3)) := by rw [hW4]; have h2x := h2; simp only [List.length_append, List.length_singleton, List.length_nil] at h2x; exact h2x
        have g3 : Boxed W4 w.heap.size 33 (.func (.func fn) #[] cap) := by rw [hW4]; exact h3
        have g4 : Below w.heap.size w W4 := by rw [hW4]; exact below_dN h4 _
        have g5 : KeepsFrom w0.heap.size W₂ W4 := HKB.trans (by rw [hW4]; exact (keeps_below (below_dN (Below.refl _ _) _)))
        have g6 : ∀ k, k < W₂.heap.size → W4.heap[k]? = W₂.heap[k]? := fun k hk => by rw [hW4]; exact HN.out k hk
        have hsz4 : W₃.heap.size ≤ W4.heap.size := by rw [hW4]; exact Nat.le_refl _
        have G6 := Lib.hid g6
        have hq0' : W4.cell? ⟨W.heap.size, 0, none⟩ = some (.int .i64 f) := by rw [hW4]; exact hq0
        have hq1' : W4.cell? ⟨W.heap.size, 1, none⟩ = some (.int .i64 t) := by rw [hW4]; exact hq1
        have hc1' := g1.cell
        clear hq0 hq1 hc1 h1 h2 h3 h4 hW4 g6
        gi_wp2_with (gi_at_builtin; refine wpListIn_append_own _ rfl _ _ 24 rfl (w.heap.size + 5) 53 i0 _ 3 24 Try.underlying24 hi hz0 hz1 hz2 rfl (by decide) _ _ _ rfl (g2.alloc _) ⟨W4.heap.size, 0, none⟩ 1 1 (bcells ⟨f, t, k⟩) rfl rfl (news_blk _ _) (by simp [bcells, Value.oneCell']) (by unfold maxLen; simp; try omega) (by simp; try omega) (by simp; omega) ?_; intro v' w1 hown' hgrow hnil; clear hnil; obtain ⟨hv1, hv2, hr2, hk2, hx2⟩ := append_blk (l := ([] : List B3)) (by simp) g1 g2 hown' hgrow; obtain ⟨g', cap', rfl⟩ := ownsRow_succ hown'; have hc2 := hv1.cell; have hf2 := hv1.frozen)
        refine ⟨g5.trans (hk2.from _), fun k hk => (hx2.block k (by omega) (by omega)).trans (G6.out k (by omega)), ?_⟩
        simp only [HFO.out, HST.out]
        exact ⟨_, hv2, hr2, hx2.keeps g3 (by omega), g4.trans (hx2.below (by omega) (by omega))⟩
      · rw [List.concat_eq_append] at e
        have hll : lst.length + 1 ≤ 100000000 := by rw [e] at hlen; simpa using hlen
        rw [e] at h2
        have h2' := Lib.hid h2
        obtain ⟨g', cap', rfl, hrb, hgl, hcap, hcm, c1, c2, hfz, hset⟩ := last_blk h2
        have hst : Blk.step (foldS g pre) f t k = if q.t = f ∧ q.c = k then lst ++ [⟨q.f, t, k⟩] else (lst ++ [q]) ++ [⟨f, t, k⟩] := by rw [e, step_snoc _ _ _ _ _ hkn]
        have HST := Lib.hid hst
        have HSET := Lib.hid hset
        clear hkn hst e hset h2
        have hq0 := blk_cell (cs := [.int .i64 f, .int .i64 t]) hr (i := 0) rfl
        have hq1 := blk_cell (cs := [.int .i64 f, .int .i64 t]) hr (i := 1) rfl
        have s1 : IntKind.i64.wrap (((lst.length + 1 : Nat) : Int) - 1) = (lst.length : Int) := by rw [IntWalk.i64_in _ (by omega)]; omega
        have s2 : (0 : Int) < ((lst.length + 1 : Nat) : Int) := by omega
        by_cases e1 : q.t = f
        · have b1 : (q.t == f) = true := by rw [beq_iff_eq]; exact e1
          by_cases e2 : q.c = k
          · have b2 : (q.c == k) = true := by rw [beq_iff_eq]; exact e2
            have HIF : Hid ((if q.t = f ∧ q.c = k then lst ++ [⟨q.f, t, k⟩] else (lst ++ [q]) ++ [⟨f, t, k⟩]) = lst ++ [(⟨q.f, t, q.c⟩ : B3)]) := Lib.hid (by rw [if_pos ⟨e1, e2⟩, e2])
            clear e1 e2
            gi_upto_region 8 with fail
            refine quietRound_region (by kernel_rfl) (by kernel_rfl) (by kernel_rfl) ?_
            repeat (gi_big_quiet_step (fail))
            refine wpQuietIn_nil ?_
            rintro W4 ⟨nq, hW4⟩
            have g1 : Boxed W4 (w.heap.size + 1) 24 (.slice (some ⟨g', 0, none⟩) (lst.length + 1) cap') := by rw [hW4]; exact h1
            have g3 : Boxed W4 w.heap.size 33 (.func (.func fn) #[] cap) := by rw [hW4]; exact h3
            have g4 : Below w.heap.size w W4 := by rw [hW4]; exact below_dN h4 _
            have g5 : KeepsFrom w0.heap.size W₂ W4 := HKB.trans (by rw [hW4]; exact (keeps_below (below_dN (Below.refl _ _) _)))
            have g6 : ∀ k, k < W₂.heap.size → W4.heap[k]? = W₂.heap[k]? := fun k hk => by rw [hW4]; exact HN.out k hk
            have g7 : W4.ownsRow (w.heap.size + 5) 53 3 (.slice (some ⟨g', 0, none⟩) (lst.length + 1) cap') (lst ++ [q]).length (bcs (lst ++ [q])) := by rw [hW4]; exact h2'.out
            obtain ⟨_, _, hv, _, hgl4, _, _, c1', c2', hfz', hset'⟩ := last_blk g7
            cases hv
            have G6 := Lib.hid g6
            have HSET' := Lib.hid hset'
            have hq1' : W4.cell? ⟨W.heap.size, 1, none⟩ = some (.int .i64 t) := by rw [hW4]; exact hq1
            have hc1' := g1.cell
            clear hq0 hq1 hc1 h1 h3 h4 hW4 g6 g7 hset' c1 c2 hfz
            gi_wp2_with fail
            refine ⟨g5.trans ((KeepsOthers.setCell _ _ _).from _), fun k hk => (Below.heap_setCell _ _ _ _ (by simp only; omega)).trans (G6.out k (by omega)), ?_⟩
            simp only [HFO.out, HST.out, HIF.out]
            obtain ⟨r1, r2⟩ := HSET'.out t
            exact ⟨_, g1.kept r2 (by simp; omega), r1, g3.kept r2 (by simp; omega), g4.grown r2 (Nat.le_trans (by omega) g4.size) (by intro j hj; simp at hj; omega)⟩
          · have b2 : (q.c == k) = false := by rw [beq_eq_false_iff_ne]; exact e2
            have HIF : Hid ((if q.t = f ∧ q.c = k then lst ++ [⟨q.f, t, k⟩] else (lst ++ [q]) ++ [⟨f, t, k⟩]) = (lst ++ [q]) ++ [(⟨f, t, k⟩ : B3)]) := Lib.hid (if_neg (fun h => e2 h.2))
            have h2 := h2'.out
            clear e1 e2
            gi_upto_region 8 with fail
            refine quietRound_region (by kernel_rfl) (by kernel_rfl) (by kernel_rfl) ?_
            repeat (gi_big_quiet_step (fail))
            refine wpQuietIn_nil ?_
            rintro W4 ⟨nq, hW4⟩
            have g1 : Boxed W4 (w.heap.size + 1) 24 (.slice (some ⟨g', 0, none⟩) (lst.length + 1) cap') := by rw [hW4]; exact h1
            have g2 : W4.ownsRow (w.heap.size + 5) 53 3 (.slice (some ⟨g', 0, none⟩) (lst.length + 1) cap') (lst.length + 1) (bcs (lst ++ [q])) := by rw [hW4]; have h2x := h2; simp only [List.length_append, List.length_singleton, List.length_nil] at h2x; exact h2x
            have g3 : Boxed W4 w.heap.size 33 (.func (.func fn) #[] cap) := by rw [hW4]; exact h3
            have g4 : Below w.heap.size w W4 := by rw [hW4]; exact below_dN h4 _
            have g5 : KeepsFrom w0.heap.size W₂ W4 := HKB.trans (by rw [hW4]; exact (keeps_below (below_dN (Below.refl _ _) _)))
            have g6 : ∀ k, k < W₂.heap.size → W4.heap[k]? = W₂.heap[k]? := fun k hk => by rw [hW4]; exact HN.out k hk
            have hsz4 : W₃.heap.size ≤ W4.heap.size := by rw [hW4]; exact Nat.le_refl _
            have G6 := Lib.hid g6
            have hq0' : W4.cell? ⟨W.heap.size, 0, none⟩ = some (.int .i64 f) := by rw [hW4]; exact hq0
            have hq1' : W4.cell? ⟨W.heap.size, 1, none⟩ = some (.int .i64 t) := by rw [hW4]; exact hq1
            have hc1' := g1.cell
            clear hq0 hq1 hc1 h1 h2 h3 h4 hW4 g6
            gi_wp2_with (gi_at_builtin; refine wpListIn_append_own _ rfl _ _ 24 rfl (w.heap.size + 5) 53 i0 _ 3 24 Try.underlying24 hi hz0 hz1 hz2 rfl (by decide) _ _ _ rfl (g2.alloc _) ⟨W4.heap.size, 0, none⟩ 1 1 (bcells ⟨f, t, k⟩) rfl rfl (news_blk _ _) (by simp [bcells, Value.oneCell']) (by unfold maxLen; omega) (by omega) (by simp; omega) ?_; intro v' w1 hown' hgrow hnil; clear hnil; obtain ⟨hv1, hv2, hr2, hk2, hx2⟩ := append_blk (l := (lst ++ [q])) (by simp) g1 g2 hown' hgrow; obtain ⟨g', cap', rfl⟩ := ownsRow_succ hown'; have hc2 := hv1.cell; have hf2 := hv1.frozen)
            refine ⟨g5.trans (hk2.from _), fun k hk => (hx2.block k (by omega) (by omega)).trans (G6.out k (by omega)), ?_⟩
            simp only [HFO.out, HST.out, HIF.out]
            exact ⟨_, hv2, hr2, hx2.keeps g3 (by omega), g4.trans (hx2.below (by omega) (by omega))⟩
        · have b1 : (q.t == f) = false := by rw [beq_eq_false_iff_ne]; exact e1
          have HIF : Hid ((if q.t = f ∧ q.c = k then lst ++ [⟨q.f, t, k⟩] else (lst ++ [q]) ++ [⟨f, t, k⟩]) = (lst ++ [q]) ++ [(⟨f, t, k⟩ : B3)]) := Lib.hid (if_neg (fun h => e1 h.1))
          have h2 := h2'.out
          clear e1
          gi_upto_region 8 with fail
          refine quietRound_region (by kernel_rfl) (by kernel_rfl) (by kernel_rfl) ?_
          repeat (gi_big_quiet_step (fail))
          refine wpQuietIn_nil ?_
          rintro W4 ⟨nq, hW4⟩
          have g1 : Boxed W4 (w.heap.size + 1) 24 (.slice (some ⟨g', 0, none⟩) (lst.length + 1) cap') := by rw [hW4]; exact h1
          have g2 : W4.ownsRow (w.heap.size + 5) 53 3 (.slice (some ⟨g', 0, none⟩) (lst.length + 1) cap') (lst.length + 1) (bcs (lst ++ [q])) := by rw [hW4]; have h2x := h2; simp only [List.length_append, List.length_singleton, List.length_nil] at h2x; exact h2x
          have g3 : Boxed W4 w.heap.size 33 (.func (.func fn) #[] cap) := by rw [hW4]; exact h3
          have g4 : Below w.heap.size w W4 := by rw [hW4]; exact below_dN h4 _
          have g5 : KeepsFrom w0.heap.size W₂ W4 := HKB.trans (by rw [hW4]; exact (keeps_below (below_dN (Below.refl _ _) _)))
          have g6 : ∀ k, k < W₂.heap.size → W4.heap[k]? = W₂.heap[k]? := fun k hk => by rw [hW4]; exact HN.out k hk
          have hsz4 : W₃.heap.size ≤ W4.heap.size := by rw [hW4]; exact Nat.le_refl _
          have G6 := Lib.hid g6
          have hq0' : W4.cell? ⟨W.heap.size, 0, none⟩ = some (.int .i64 f) := by rw [hW4]; exact hq0
          have hq1' : W4.cell? ⟨W.heap.size, 1, none⟩ = some (.int .i64 t) := by rw [hW4]; exact hq1
          have hc1' := g1.cell
          clear hq0 hq1 hc1 h1 h2 h3 h4 hW4 g6
          gi_wp2_with (gi_at_builtin; refine wpListIn_append_own _ rfl _ _ 24 rfl (w.heap.size + 5) 53 i0 _ 3 24 Try.underlying24 hi hz0 hz1 hz2 rfl (by decide) _ _ _ rfl (g2.alloc _) ⟨W4.heap.size, 0, none⟩ 1 1 (bcells ⟨f, t, k⟩) rfl rfl (news_blk _ _) (by simp [bcells, Value.oneCell']) (by unfold maxLen; omega) (by omega) (by simp; omega) ?_; intro v' w1 hown' hgrow hnil; clear hnil; obtain ⟨hv1, hv2, hr2, hk2, hx2⟩ := append_blk (l := (lst ++ [q])) (by simp) g1 g2 hown' hgrow; obtain ⟨g', cap', rfl⟩ := ownsRow_succ hown'; have hc2 := hv1.cell; have hf2 := hv1.frozen)
          refine ⟨g5.trans (hk2.from _), fun k hk => (hx2.block k (by omega) (by omega)).trans (G6.out k (by omega)), ?_⟩
          simp only [HFO.out, HST.out, HIF.out]
          exact ⟨_, hv2, hr2, hx2.keeps g3 (by omega), g4.trans (hx2.below (by omega) (by omega))⟩
  case done =>
    rintro D W ⟨v, h1, h2, h3, h4⟩ hD hK
    have hlen : (foldS g (pieces a b 0)).length ≤ 100000000 := by
      have h8 := foldS_len g (pieces a b 0)
      rcases pieces_len a b 0 with h7 | h7
      · omega
      · rw [h7] at h8 ⊢; simp only [List.length_nil] at h8; omega
    obtain ⟨A, c, rfl, hl, hcm⟩ := own_slice h2
    have hc := h1.cell
    have hH : HoldsB W W.heap.size (.slice A (foldS g (pieces a b 0)).length c) (foldS g (pieces a b 0)) := ⟨A, c, rfl, hl, hcm, Span.of_own h2⟩
    have HH := Lib.hid hH
    have hend : Below w.heap.size w (W.putObj D (.deferred none)) := h4.trans ((Ext.putObj (fun k => w0.heap.size ≤ k) _ _ _ hD).below (by intros; omega) (by have := h4.size; omega))
    have hsd : (W.putObj D (.deferred none)).heap.size = W.heap.size := by simp
    have HSD := Lib.hid hsd
    clear h1 h2 h3 hH hI hsd
    by_cases h40 : (foldS g (pieces a b 0)).length ≤ 40
    · have HIF : Hid ((if (foldS g (pieces a b 0)).length ≤ 40 then (0 : Int) else 130) = 0) := Lib.hid (if_pos h40)
      have HIF2 : Hid ((if (foldS g (pieces a b 0)).length ≤ 40 then foldS g (pieces a b 0) else []) = foldS g (pieces a b 0)) := Lib.hid (if_pos h40)
      gi_wp2_with fail
      refine ⟨by simp; try omega, .inl ⟨_, _, rfl, run_takeDeferred hK, ?_⟩⟩
      exact ⟨_, results_tmp2 rfl _ _ _, _, rfl, by rw [HSD.out]; exact holds_put hK rfl HH.out, hend⟩
    · have HIF : Hid ((if (foldS g (pieces a b 0)).length ≤ 40 then (0 : Int) else 130) = 130) := Lib.hid (if_neg h40)
      have HIF2 : Hid ((if (foldS g (pieces a b 0)).length ≤ 40 then foldS g (pieces a b 0) else []) = []) := Lib.hid (if_neg h40)
      gi_wp2_with fail
      refine ⟨by simp; try omega, .inl ⟨_, _, rfl, run_takeDeferred hK, ?_⟩⟩
      exact ⟨_, results_tmp2 rfl _ _ _, _, rfl, holds_nil _ _, hend⟩
end Go.Proofs.Ytmgippddljmfjaa
