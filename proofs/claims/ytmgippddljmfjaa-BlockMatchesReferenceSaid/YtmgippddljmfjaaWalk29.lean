/-
  dialtoneref13.Bent returns some list of blocks.
-/
import Derived.Test.YtmgippddljmfjaaWalk28
import Derived.Test.YtmgippddljmfjaaRows2
import Derived.BigRegion
import Derived.Deep.AppendLies
namespace Go.Proofs.Ytmgippddljmfjaa
open Go Go.RowKit Go.Dial Go.Dial.Blk

def IsInt (u : Value) : Prop := ∃ m : Int, u = .int .i64 m
/-- a row of the call's own whose cells are integers -/
def IntRow (w : World) (base : Nat) (v : Value) (n : Nat) : Prop := ∃ xs, w.ownsRow base 53 3 v n xs ∧ ∀ u ∈ xs, IsInt u
theorem ints_bcs (n : Nat) (xs : List Value) (h : xs.length = n * 3) (hi : ∀ u ∈ xs, IsInt u) : ∃ l : List B3, l.length = n ∧ bcs l = xs := by
  induction n generalizing xs with
  | zero => exact ⟨[], rfl, by have : xs = [] := List.eq_nil_of_length_eq_zero (by omega); rw [this]; rfl⟩
  | succ n ih =>
    match xs, h, hi with
    | a :: b :: c :: xs, h, hi =>
      obtain ⟨l, h1, h2⟩ := ih xs (by simp at h; omega) (fun u hu => hi u (by simp [hu]))
      obtain ⟨x, rfl⟩ := hi a (by simp)
      obtain ⟨y, rfl⟩ := hi b (by simp)
      obtain ⟨z, rfl⟩ := hi c (by simp)
      exact ⟨⟨x, y, z⟩ :: l, by simp [h1], by rw [← h2]; rfl⟩
    | [], h, _ => simp at h
    | [_], h, _ => simp at h; omega
    | [_, _], h, _ => simp at h; omega
theorem IntRow.holds {w : World} {base n : Nat} {v : Value} (h : IntRow w base v n) : ∃ l, HoldsB w w.heap.size v l := by
  obtain ⟨xs, h1, h2⟩ := h
  obtain ⟨l, e1, e2⟩ := ints_bcs n xs h1.1 h2
  subst e1; subst e2
  obtain ⟨A, c, rfl, h3, h4⟩ := own_slice h1
  exact ⟨l, A, c, rfl, h3, h4, Span.of_own h1⟩
theorem IntRow.set {w : World} {base g n cap j : Nat} {m : Int} (h : IntRow w base (.slice (some ⟨g, 0, none⟩) n cap) n) : IntRow (w.setCell ⟨g, j, none⟩ (.int .i64 m)) base (.slice (some ⟨g, 0, none⟩) n cap) n := by
  obtain ⟨xs, h1, h2⟩ := h
  refine ⟨_, (h1.stored j _).1, fun u hu => ?_⟩
  rcases List.mem_or_eq_of_mem_set hu with h | h
  · exact h2 u h
  · exact ⟨m, h⟩
theorem IntRow.cell {w : World} {base g n cap j : Nat} (h : IntRow w base (.slice (some ⟨g, 0, none⟩) n cap) n) (hj : j < n * 3) : ∃ m : Int, w.cell? ⟨g, j, none⟩ = some (.int .i64 m) := by
  obtain ⟨xs, h1, h2⟩ := h
  have hl : j < xs.length := by rw [h1.1]; exact hj
  obtain ⟨m, hm⟩ := h2 xs[j] (List.getElem_mem hl)
  exact ⟨m, by rw [h1.cellAt j hj, List.getElem?_eq_getElem hl, hm]⟩
theorem IntRow.frozen {w : World} {base g n cap : Nat} (h : IntRow w base (.slice (some ⟨g, 0, none⟩) n cap) n) (j : Nat) : w.frozen? ⟨g, j, none⟩ = false := by
  obtain ⟨xs, h1, h2⟩ := h; exact h1.frozenAt j
theorem bcs_int (l : List B3) : ∀ u ∈ bcs l, IsInt u := by
  intro u hu
  obtain ⟨b, _, hb⟩ := List.mem_flatMap.1 hu
  simp only [bcells, List.mem_cons, List.not_mem_nil, or_false] at hb
  rcases hb with rfl | rfl | rfl <;> exact ⟨_, rfl⟩
theorem one_of_int {l : List Value} (h : ∀ u ∈ l, IsInt u) : ∀ u ∈ l, u.oneCell' = true := fun u hu => by obtain ⟨m, rfl⟩ := h u hu; rfl
theorem own_head {w : World} {base n : Nat} {v : Value} {xs : List Value} (h : w.ownsRow base 53 3 v n xs) (hn : 0 < n) :
    ∃ g cap, v = .slice (some ⟨g, 0, none⟩) n cap ∧ base ≤ g ∧ g < w.heap.size ∧ n ≤ cap ∧ cap ≤ 9223372036854775807 := by
  rcases h.2 with ⟨_, h0⟩ | ⟨g, cap, cur, hv, hb, hg, h1, h2, _⟩
  · omega
  · exact ⟨g, cap, hv, hb, (Array.getElem?_eq_some_iff.1 hg).1, h1, h2⟩
theorem below_of_grown {w w1 : World} {v : Value} {n : Nat} {xs : List Value} {o : Obj} (h : (w.alloc o).ownsRow w.heap.size 53 3 v n xs) (hg : (w.alloc o).grownBy w1 v.ownBlock) : Below w.heap.size w w1 := by
  have hz := hg.size
  simp at hz
  refine ⟨hg.os, hg.tape, hg.output, by omega, fun k hk => ?_⟩
  rw [hg.block k (by simp; omega) (fun e => by have := (h.lt k e.symm).1; omega)]
  exact Below.heap_alloc _ _ _ hk
theorem below_app {w w1 w2 : World} {g n cap : Nat} {o : Obj} (hb : Below w.heap.size w w1) (hg : w.heap.size ≤ g) (h : (w1.alloc o).grownBy w2 (Value.slice (some ⟨g, 0, none⟩) n cap).ownBlock) : Below w.heap.size w w2 := by
  have hz := h.size
  have hz1 := hb.size
  simp at hz
  refine (hb.alloc hb.size o).trans ⟨h.os, h.tape, h.output, h.size, fun k hk => h.block k (by simp; omega) (fun e => ?_)⟩
  simp [Value.ownBlock] at e
  omega
theorem IntRow.drew {w : World} {base n : Nat} {v : Value} (h : IntRow w base v n) : IntRow w.drew base v n := by
  obtain ⟨xs, h1, h2⟩ := h
  exact ⟨xs, h1.drew, h2⟩
theorem below_app2 {w w1 w2 : World} {n : Nat} {v : Value} {xs : List Value} {o : Obj} (hb : Below w.heap.size w w1) (hv : w1.ownsRow w.heap.size 53 3 v n xs) (h : (w1.alloc o).grownBy w2 v.ownBlock) : Below w.heap.size w w2 := by
  have hz := h.size
  have hz1 := hb.size
  simp at hz
  refine (hb.alloc hb.size o).trans ⟨h.os, h.tape, h.output, h.size, fun k hk => h.block k (by simp; omega) (fun e => ?_)⟩
  have := (hv.lt k e.symm).1
  omega
def BentPost (w : World) (e : Ending) (w' : World) : Prop := ∃ v l, e = .returned v ∧ HoldsB w' w'.heap.size v l ∧ Below w.heap.size w w'
theorem bent_end {w w' : World} {base n : Nat} {v : Value} (h : IntRow w' base v n) (hb : Below w.heap.size w w') : BentPost w (.returned v) w' := by
  obtain ⟨l, hl⟩ := h.holds
  exact ⟨v, l, rfl, hl, hb⟩

theorem bent_nil (how n at_ : Int) (v : Value) (w : World) (hv : HoldsB w w.heap.size v []) : Calls Try.prog 13 #[v, .int .i64 how, .int .i64 n, .int .i64 at_] w (BentPost w) := by
  obtain ⟨A, c, rfl, h0, h1, h2⟩ := hv
  have SP := Lib.hid h2
  clear h2
  obtain ⟨i0, hi, hz0, hz1, hz2⟩ := info_parts info53
  have hown := World.ownsRow_lit (base := w.heap.size) (e := 53) (size := 3) w #[] 0 (Nat.le_refl _) (Nat.zero_le _) rfl
  go_enter Try.func13, Try.ntmps13
  go_wp2_with (at_builtin; refine wpList_append_span rfl _ _ 24 rfl w.heap.size 53 i0 _ 3 24 Try.underlying24 hi hz0 hz1 hz2 rfl (by decide) _ 0 _ rfl hown A 0 c w.heap.size [] rfl (SP.out.below (below_al w _) (Nat.le_refl _)) (by simp) (by unfold maxLen; omega) (by omega) (by simp) ?_; intro v' w1 hown' hgrow; obtain ⟨A', c', rfl, k1, k2⟩ := own_slice hown'; have HB1 := Lib.hid (below_of_grown hown hgrow); clear hown' hgrow)
  go_ret
  refine bent_end (base := w1.heap.size) (n := 1) ⟨[.int .i64 n, .int .i64 at_, .int .i64 0], World.ownsRow_lit w1 #[.int .i64 n, .int .i64 at_, .int .i64 0] 1 (Nat.le_refl _) (by unfold maxLen; decide) rfl, ?_⟩ (below_trans HB1.out (below_al _ _))
  intro u hu
  simp at hu
  rcases hu with rfl | rfl | rfl <;> exact ⟨_, rfl⟩
set_option maxRecDepth 100000 in
set_option maxHeartbeats 4000000 in
theorem bent_any (v : Value) (a : List B3) (how n at_ : Int) (w : World) (hv : HoldsB w w.heap.size v a) (hlen : a.length ≤ 40) (hhow : I64 how) (hn : I64 n) (hat : I64 at_) :
    Calls Try.prog 13 #[v, .int .i64 how, .int .i64 n, .int .i64 at_] w (BentPost w) := by
  by_cases ha0 : a.length = 0
  · obtain rfl := List.eq_nil_of_length_eq_zero ha0
    exact bent_nil how n at_ v w hv
  obtain ⟨A, c, rfl, h0, h1, h2⟩ := hv
  have SP := Lib.hid h2
  clear h2
  obtain ⟨i0, hi, hz0, hz1, hz2⟩ := info_parts info53
  have hown := World.ownsRow_lit (base := w.heap.size) (e := 53) (size := 3) w #[] 0 (Nat.le_refl _) (Nat.zero_le _) rfl
  have hp := pickV_bd at_ (show (0 : Int) < (a.length : Int) by omega)
  obtain ⟨k, hk⟩ : ∃ k : Nat, (k : Int) = pickV at_ (a.length : Int) := ⟨(pickV at_ (a.length : Int)).toNat, by omega⟩
  rw [← hk] at hp
  have HK := Lib.hid hk
  have hq := pickV_bd how (show (0 : Int) < 6 by decide)
  obtain ⟨s, hs⟩ : ∃ s, s = pickV how 6 := ⟨_, rfl⟩
  rw [← hs] at hq
  have HS := Lib.hid hs
  obtain ⟨N, hN⟩ : ∃ N, N = a.length := ⟨_, rfl⟩
  have HSP : Hid (Span w w.heap.size 3 A N (bcs a)) := Lib.hid (by rw [hN]; exact SP.out)
  have HKN : Hid ((k : Int) = pickV at_ (N : Int)) := Lib.hid (by rw [hN]; exact HK.out)
  rw [← hN] at hp hlen ha0 h0 ⊢
  clear hk hs hN SP HK
  have hsc : s = 0 ∨ s = 1 ∨ s = 2 ∨ s = 3 ∨ s = 4 ∨ s = 5 := by omega
  go_enter Try.func13, Try.ntmps13
  go_upto_region 2 with (at_builtin; refine wpList_append_span rfl _ _ 24 rfl w.heap.size 53 i0 _ 3 24 Try.underlying24 hi hz0 hz1 hz2 rfl (by decide) _ 0 _ rfl hown A N c w.heap.size (bcs a) rfl (HSP.out.below (below_al w _) (Nat.le_refl _)) (one_of_int (bcs_int a)) (by unfold maxLen; omega) (by omega) (by simp) ?_; intro v' w1 hown' hgrow; simp only [Nat.zero_add, List.nil_append] at hown'; have HR1 := Lib.hid (Exists.intro (p := fun xs => w1.ownsRow w.heap.size 53 3 v' N xs ∧ ∀ u ∈ xs, IsInt u) _ ⟨hown', bcs_int a⟩); obtain ⟨g, cap, rfl, hg1, hg2, hg3, hg4⟩ := own_head hown' (by omega); have HB1 := Lib.hid (below_of_grown hown hgrow); clear hown' hgrow)
  have HR0 : Hid (IntRow w1 w.heap.size (.slice (some ⟨g, 0, none⟩) N cap) N) := HR1
  clear HR1 hown h0 h1 HSP
  have hk0 : (0 : Int) ≤ (k : Int) := hp.1
  have hk1 : (k : Int) < (N : Int) := hp.2
  clear hp
  go_upto_region 5 with (go_at_call 35; refine (rpick_any at_ (N : Int) _ hat (by omega) (by omega)).mono ?_; rintro e wq ⟨rfl, rfl⟩; rw [← HKN.out])
  rcases hsc with rfl | rfl | rfl | rfl | rfl | rfl
  · obtain ⟨m0, x0⟩ := HR0.out.cell (j := k * 3) (by omega)
    have f0 := HR0.out.frozen (k * 3)
    go_wp2_with (go_at_call 35; refine (rpick_any how 6 _ hhow (by decide) (by decide)).mono ?_; rintro e wq ⟨rfl, rfl⟩; rw [← HS.out])
    go_ret
    exact bent_end HR0.out.set (HB1.out.setCell (by simp; omega) _)
  · obtain ⟨m0, x0⟩ := HR0.out.cell (j := k * 3 + 1) (by omega)
    have f0 := HR0.out.frozen (k * 3 + 1)
    go_wp2_with (go_at_call 35; refine (rpick_any how 6 _ hhow (by decide) (by decide)).mono ?_; rintro e wq ⟨rfl, rfl⟩; rw [← HS.out])
    go_ret
    exact bent_end HR0.out.set (HB1.out.setCell (by simp; omega) _)
  · obtain ⟨m0, x0⟩ := HR0.out.cell (j := k * 3 + 2) (by omega)
    have f0 := HR0.out.frozen (k * 3 + 2)
    go_wp2_with (go_at_call 35; refine (rpick_any how 6 _ hhow (by decide) (by decide)).mono ?_; rintro e wq ⟨rfl, rfl⟩; rw [← HS.out])
    go_ret
    exact bent_end HR0.out.set (HB1.out.setCell (by simp; omega) _)
  · obtain ⟨m0, x0⟩ := HR0.out.cell (j := k * 3) (by omega)
    obtain ⟨m1, x1⟩ := HR0.out.cell (j := k * 3 + 1) (by omega)
    obtain ⟨m2, x2⟩ := HR0.out.cell (j := k * 3 + 2) (by omega)
    obtain ⟨xs, hx1, hx2⟩ := HR0.out
    have HX2 := Lib.hid hx2
    clear hx2
    go_wp2_with (first | (at_builtin; refine wpList_append_own _ rfl _ _ 24 rfl w.heap.size 53 i0 _ 3 24 Try.underlying24 hi hz0 hz1 hz2 rfl (by decide) _ _ _ rfl (hx1.alloc _) ⟨w1.heap.size, 0, none⟩ 1 1 (bcells ⟨m0, m1, m2⟩) rfl rfl (news_blk _ _) (by simp [bcells, Value.oneCell']) (by unfold maxLen; omega) (by omega) (by simp; omega) ?_; intro v' w2 hown' hgrow hnil; clear hnil) | (go_at_call 35; refine (rpick_any how 6 _ hhow (by decide) (by decide)).mono ?_; rintro e wq ⟨rfl, rfl⟩; rw [← HS.out]))
    go_ret
    refine bent_end (base := w.heap.size) (n := N + 1) ⟨_, hown', fun u hu => ?_⟩ (below_app HB1.out hg1 hgrow)
    rcases List.mem_append.1 hu with h | h
    · exact HX2.out u h
    · simp [bcells] at h
      rcases h with rfl | rfl | rfl <;> exact ⟨_, rfl⟩
  · by_cases hkz : k = 0
    · subst hkz
      obtain ⟨m0, x0⟩ := HR0.out.cell (j := 0) (by omega)
      obtain ⟨m1, x1⟩ := HR0.out.cell (j := 1) (by omega)
      obtain ⟨m2, x2⟩ := HR0.out.cell (j := 2) (by omega)
      have f0 := HR0.out.frozen 0
      have f1 := HR0.out.frozen 1
      have f2 := HR0.out.frozen 2
      go_upto_region 20 with (go_at_call 35; refine (rpick_any how 6 _ hhow (by decide) (by decide)).mono ?_; rintro e wq ⟨rfl, rfl⟩; rw [← HS.out])
      go_region
      all_goals
        go_wp2_with fail
        go_ret
        refine bent_end (base := w.heap.size) (n := N) (v := .slice (some ⟨g, 0, none⟩) N cap) ?_ ?_
        · repeat (first | with_reducible exact HR0.out | with_reducible refine IntRow.drew ?_ | with_reducible refine IntRow.set ?_)
        · repeat (first | with_reducible exact HB1.out | with_reducible refine Below.drew ?_ | with_reducible refine Below.setCell ?_ (by simp; omega) _)
    · obtain ⟨m0, x0⟩ := HR0.out.cell (j := 0) (by omega)
      obtain ⟨m1, x1⟩ := HR0.out.cell (j := 1) (by omega)
      obtain ⟨m2, x2⟩ := HR0.out.cell (j := 2) (by omega)
      obtain ⟨y0, c0⟩ := HR0.out.cell (j := k * 3) (by omega)
      obtain ⟨y1, c1⟩ := HR0.out.cell (j := k * 3 + 1) (by omega)
      obtain ⟨y2, c2⟩ := HR0.out.cell (j := k * 3 + 2) (by omega)
      have f0 := HR0.out.frozen 0
      have f1 := HR0.out.frozen 1
      have f2 := HR0.out.frozen 2
      have f3 := HR0.out.frozen (k * 3)
      have f4 := HR0.out.frozen (k * 3 + 1)
      have f5 := HR0.out.frozen (k * 3 + 2)
      have n0 : k * 3 ≠ 0 := by omega
      have n1 : k * 3 ≠ 1 := by omega
      have n2 : k * 3 ≠ 2 := by omega
      have n3 : k * 3 + 1 ≠ 0 := by omega
      have n4 : k * 3 + 1 ≠ 1 := by omega
      have n5 : k * 3 + 1 ≠ 2 := by omega
      have n6 : k * 3 + 2 ≠ 0 := by omega
      have n7 : k * 3 + 2 ≠ 1 := by omega
      have n8 : k * 3 + 2 ≠ 2 := by omega
      have e0 : 0 ≠ k * 3 := by omega
      have e1 : 1 ≠ k * 3 := by omega
      have e2 : 2 ≠ k * 3 := by omega
      have e3 : 0 ≠ k * 3 + 1 := by omega
      have e4 : 1 ≠ k * 3 + 1 := by omega
      have e5 : 2 ≠ k * 3 + 1 := by omega
      have e6 : 0 ≠ k * 3 + 2 := by omega
      have e7 : 1 ≠ k * 3 + 2 := by omega
      have e8 : 2 ≠ k * 3 + 2 := by omega
      go_upto_region 20 with (go_at_call 35; refine (rpick_any how 6 _ hhow (by decide) (by decide)).mono ?_; rintro e wq ⟨rfl, rfl⟩; rw [← HS.out])
      go_region
      all_goals
        go_wp2_with fail
        go_ret
        refine bent_end (base := w.heap.size) (n := N) (v := .slice (some ⟨g, 0, none⟩) N cap) ?_ ?_
        · repeat (first | with_reducible exact HR0.out | with_reducible refine IntRow.drew ?_ | with_reducible refine IntRow.set ?_)
        · repeat (first | with_reducible exact HB1.out | with_reducible refine Below.drew ?_ | with_reducible refine Below.setCell ?_ (by simp; omega) _)
  · have hq4 := pickV_bd n (show (0 : Int) < 4 by decide)
    obtain ⟨q, hq'⟩ : ∃ q : Nat, (q : Int) = pickV n 4 := ⟨(pickV n 4).toNat, by omega⟩
    rw [← hq'] at hq4
    have HQ := Lib.hid hq'
    have hq5 : (0 : Int) ≤ (q : Int) := hq4.1
    have hq6 : (q : Int) ≤ 3 := by omega
    clear hq' hq4 hk0 hk1
    have hs1 := HB1.out.size
    go_wp2_with (go_at_call 35; refine (rpick_any how 6 _ hhow (by decide) (by decide)).mono ?_; rintro e wq ⟨rfl, rfl⟩; rw [← HS.out])
    go_loopw [9, 11] (fun v i wr => ∃ j : Nat, j ≤ 39 + q ∧ i = .int .i64 j ∧ IntRow wr w.heap.size v j ∧ Below w.heap.size w wr) (fun _ i _ => 39 + q - (intOf i).toNat)
    case atStart => exact ⟨0, by omega, rfl, ⟨[], World.ownsRow_nil _ _ _ _, by simp⟩, HB1.out⟩
    case round =>
      obtain ⟨j, hj, rfl, hrow, hb⟩ := hrel
      obtain ⟨xs, hx1, hx2⟩ := hrow
      have HX2 := Lib.hid hx2
      have HBJ := Lib.hid hb
      have hzj := hb.size
      have z0 : (0 : Int) ≤ (j : Int) := by omega
      have z2 : (j : Int) ≤ 42 := by omega
      clear hx2 hb
      by_cases hjq : j < 39 + q
      · have t1 : decide ((j : Int) < 39 + (q : Int)) = true := by simp; omega
        have hjq2 : (j : Int) < 39 + (q : Int) := by omega
        go_wp2_with (first | (at_builtin; refine wpList_append_own _ rfl _ _ 24 rfl w.heap.size 53 i0 _ 3 24 Try.underlying24 hi hz0 hz1 hz2 rfl (by decide) _ _ _ rfl (hx1.alloc _) ⟨wr.heap.size, 0, none⟩ 1 1 (bcells ⟨2 * (j : Int), 2 * (j : Int) + 1, 1⟩) rfl rfl (news_blk _ _) (by simp [bcells, Value.oneCell']) (by unfold maxLen; omega) (by omega) (by simp; omega) ?_; intro v' w2 hown' hgrow hnil; clear hnil) | (go_at_call 35; refine (rpick_any n 4 _ hn (by decide) (by decide)).mono ?_; rintro e wq ⟨rfl, rfl⟩; rw [← HQ.out]))
        go_roundw
        case rel =>
          refine ⟨j + 1, by omega, by go_num, ⟨_, hown', fun u hu => ?_⟩, below_app2 HBJ.out hx1 hgrow⟩
          rcases List.mem_append.1 hu with h | h
          · exact HX2.out u h
          · simp [bcells] at h
            rcases h with rfl | rfl | rfl <;> exact ⟨_, rfl⟩
        case measure => simp [intOf]; omega
      · obtain rfl : j = 39 + q := by omega
        have hjq2 : ¬ (((39 + q : Nat) : Int) < 39 + (q : Int)) := by omega
        go_wp2_with (go_at_call 35; refine (rpick_any n 4 _ hn (by decide) (by decide)).mono ?_; rintro e wq ⟨rfl, rfl⟩; rw [← HQ.out])
        go_ret
        exact bent_end ⟨xs, hx1, HX2.out⟩ HBJ.out
end Go.Proofs.Ytmgippddljmfjaa
