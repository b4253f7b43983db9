/-
  dialtonelaw14.sane: the first loop (written by r7.py).
-/
import Derived.Test.YtjhakonpnopcnaaR6
import Derived.Deep.DrawnRows
set_option linter.unusedVariables false
set_option linter.unusedSimpArgs false
namespace Go.Proofs.Ytjhakonpnopcnaa
open Go Go.RowKit Go.Dial Go.Dial.Lif
attribute [local go_sem] Oper.semAt_some
attribute [local go_sem ↓] Go.wp_at_zero Go.wp_at_succ

/-- the blocks of the example, the times and the lines wanted -/
def Ex3 (p : Nat) (W : World) : Prop := W.heap[p]? = some (.cells #[.int .i64 1, .int .i64 100, .int .i64 5, .int .i64 3, .int .i64 200, .int .i64 (-1), .int .i64 4, .int .i64 300, .int .i64 (-1), .int .i64 5, .int .i64 400, .int .i64 (-1), .int .i64 7, .int .i64 2592400, .int .i64 (-1), .int .i64 1, .int .i64 2592400, .int .i64 6] 54) ∧ W.heap[p + 1]? = some (.cells #[.int .i64 99, .int .i64 100, .int .i64 250, .int .i64 400, .int .i64 2592400] 3) ∧ W.heap[p + 1 + 1]? = some (.cells #[.int .i64 0, .int .i64 (-1), .int .i64 0, .int .i64 0, .int .i64 1, .int .i64 5, .int .i64 1, .int .i64 100, .int .i64 2, .int .i64 5, .int .i64 1, .int .i64 200, .int .i64 3, .int .i64 5, .int .i64 1, .int .i64 400, .int .i64 1, .int .i64 6, .int .i64 2, .int .i64 2592400] 26)
theorem Ex3.later {p : Nat} {W W' : World} (h : Ex3 p W) (hb : Below W.heap.size W W') : Ex3 p W' := ⟨keepcell h.1 hb, keepcell h.2.1 hb, keepcell h.2.2 hb⟩
def lnF (l : Ln) : List Value := [.int .i64 l.s, .int .i64 l.h, .int .i64 l.e, .int .i64 l.t]
theorem add0 (b j : Nat) : (⟨b, 0, none⟩ : Addr).add j = ⟨b, j, none⟩ := by unfold Addr.add; split <;> simp_all
theorem lnF_len (l : Ln) : (lnF l).length = 4 := rfl
def inF (n : Int) : List Value := [.int .i64 n]
theorem inF_len (n : Int) : (inF n).length = 1 := rfl
def timesV : List Int := [99, 100, 250, 400, 2592400]
def wantV : List Ln := [⟨0, -1, 0, 0⟩, ⟨1, 5, 1, 100⟩, ⟨2, 5, 1, 200⟩, ⟨3, 5, 1, 400⟩, ⟨1, 6, 2, 2592400⟩]
theorem want_ok (j : Nat) (t : Int) (l : Ln) (h1 : timesV[j]? = some t) (h2 : wantV[j]? = some l) : atR exV t = (l, 0) ∧ vldB l = true := by
  rcases j with _ | _ | _ | _ | _ | j
  · cases h1; cases h2; exact ⟨ex_at1, by decide⟩
  · cases h1; cases h2; exact ⟨ex_at2, by decide⟩
  · cases h1; cases h2; exact ⟨ex_at3, by decide⟩
  · cases h1; cases h2; exact ⟨ex_at4, by decide⟩
  · cases h1; cases h2; exact ⟨ex_at5, by decide⟩
  · simp [timesV] at h1
/-- the mail, and the second loop's times, fates and holders -/
def Ex4 (q : Nat) (W : World) : Prop := W.heap[q]? = some (.cells #[.int .i64 1, .int .i64 250] 28) ∧ W.heap[q + 1]? = some (.cells #[.int .i64 250, .int .i64 300, .int .i64 400, .int .i64 2592400] 3) ∧ W.heap[q + 1 + 1]? = some (.cells #[.int .i64 2, .int .i64 1, .int .i64 2, .int .i64 3] 3) ∧ W.heap[q + 1 + 1 + 1]? = some (.cells #[.int .i64 (-1), .int .i64 5, .int .i64 (-1), .int .i64 (-1)] 3)
theorem Ex4.later {q : Nat} {W W' : World} (h : Ex4 q W) (hb : Below W.heap.size W W') : Ex4 q W' := ⟨keepcell h.1 hb, keepcell h.2.1 hb, keepcell h.2.2.1 hb, keepcell h.2.2.2 hb⟩
/-- the last line -/
def Ex5 (r : Nat) (W : World) : Prop := W.heap[r]? = some (.cells #[.int .i64 1, .int .i64 6, .int .i64 2, .int .i64 2592400] 26)
theorem Ex5.later {r : Nat} {W W' : World} (h : Ex5 r W) (hb : Below W.heap.size W W') : Ex5 r W' := keepcell h hb
/-- what Decode returned -/
def Ex6 (s : Nat) (W : World) : Prop := W.heap[s]? = some (.cells #[.int .i64 1, .int .i64 100, .int .i64 5] 54)
theorem Ex6.later {r : Nat} {W W' : World} (h : Ex6 r W) (hb : Below W.heap.size W W') : Ex6 r W' := keepcell h hb
theorem ex_cell13 {p : Nat} {W : World} (h : Ex3 p W) : W.cell? ⟨p, 13, none⟩ = some (.int .i64 2592400) ∧ W.frozen? ⟨p, 13, none⟩ = false ∧ p < W.heap.size := by
  refine ⟨?_, ?_, heap_lt h.1⟩
  · simp [World.cell?, h.1]
  · simp [World.frozen?, h.1]
theorem exc_cells {p : Nat} {W : World} (h : Ex3 p W) : W.cell? ⟨p, 0, none⟩ = some (.int .i64 1) ∧ W.cell? ⟨p, 1, none⟩ = some (.int .i64 100) ∧ W.cell? ⟨p, 2, none⟩ = some (.int .i64 5) := by
  refine ⟨?_, ?_, ?_⟩ <;> simp [World.cell?, h.1]
/-- the example with an event changed -/
def Ex3b (p : Nat) (W : World) : Prop := W.heap[p]? = some (.cells #[.int .i64 1, .int .i64 100, .int .i64 5, .int .i64 3, .int .i64 200, .int .i64 (-1), .int .i64 4, .int .i64 300, .int .i64 (-1), .int .i64 5, .int .i64 400, .int .i64 (-1), .int .i64 7, .int .i64 2592399, .int .i64 (-1), .int .i64 1, .int .i64 2592400, .int .i64 6] 54) ∧ W.heap[p + 1 + 1]? = some (.cells #[.int .i64 0, .int .i64 (-1), .int .i64 0, .int .i64 0, .int .i64 1, .int .i64 5, .int .i64 1, .int .i64 100, .int .i64 2, .int .i64 5, .int .i64 1, .int .i64 200, .int .i64 3, .int .i64 5, .int .i64 1, .int .i64 400, .int .i64 1, .int .i64 6, .int .i64 2, .int .i64 2592400] 26)
theorem Ex3b.later {p : Nat} {W W' : World} (h : Ex3b p W) (hb : Below W.heap.size W W') : Ex3b p W' := ⟨keepcell h.1 hb, keepcell h.2 hb⟩
theorem exb_set {p : Nat} {W : World} (h : Ex3 p W) : Ex3b p (W.setCell ⟨p, 13, none⟩ (.int .i64 2592399)) := by
  refine ⟨?_, (set_other _ (by omega)).trans h.2.2⟩
  simp [World.setCell, Array.getElem?_modify, h.1]
theorem want_cells {p : Nat} {W : World} (h : Ex3b p W) : W.cell? ⟨p + 1 + 1, 16, none⟩ = some (.int .i64 1) ∧ W.cell? ⟨p + 1 + 1, 17, none⟩ = some (.int .i64 6) ∧ W.cell? ⟨p + 1 + 1, 18, none⟩ = some (.int .i64 2) ∧ W.cell? ⟨p + 1 + 1, 19, none⟩ = some (.int .i64 2592400) := by
  refine ⟨?_, ?_, ?_, ?_⟩ <;> simp [World.cell?, h.2]
def stV : List St := [⟨5, 1, 100, 400⟩, ⟨6, 2, 2592400, 10000001⟩]
theorem st_holds {W : World} {g : Nat} (h : W.heap[g]? = some (.cells #[.int .i64 5, .int .i64 1, .int .i64 100, .int .i64 400, .int .i64 6, .int .i64 2, .int .i64 2592400, .int .i64 10000001] 66)) : HoldsG stc 4 W W.heap.size (.slice (some ⟨g, 0, none⟩) 2 2) stV :=
  HoldsG.of_block stc_len (l := stV) rfl (by unfold maxLen; decide) h
theorem holds_form {α : Type} {f : α → List Value} {sz n : Nat} {W : World} {B : Nat} {v : Value} {l : List α} (h : HoldsG f sz W B v l) (hn : l.length = n) : ∃ A c, v = .slice A n c := by
  obtain ⟨A, c, e, _⟩ := h
  exact ⟨A, c, by rw [e, hn]⟩
/-- the stays do not lie in the example's block -/
theorem stays_apart {p : Nat} {W : World} {v : Value} {l : List St} {a b : Int} {W' : World} (hE : Ex3 p W) (h : HoldsG stc 4 W W.heap.size v (⟨5, 1, a, b⟩ :: l)) (hk : ∀ k, k ≠ p → W'.heap[k]? = W.heap[k]?) (hz : W'.heap.size = W.heap.size) : HoldsG stc 4 W' W'.heap.size v (⟨5, 1, a, b⟩ :: l) := by
  obtain ⟨A, c, e, h1, h2, h3⟩ := h
  refine ⟨A, c, e, h1, h2, h3.1, fun j u hu => ?_⟩
  obtain ⟨ad, ha, hlt, hc⟩ := h3.2 j u hu
  have q0 := h3.2 0 (.int .i64 5) rfl
  have q1 := h3.2 1 (.int .i64 1) rfl
  obtain ⟨a0, e0, _, c0⟩ := q0
  obtain ⟨a1, e1, _, c1⟩ := q1
  rw [ha] at e0 e1
  cases e0; cases e1
  have hne : (ad.add j).block ≠ p := by
    rw [add_block]
    intro hp
    obtain ⟨bl, of, sp⟩ := ad
    simp only at hp
    subst hp
    simp [Addr.add, World.cell?, hE.1] at c0 c1
    obtain ⟨_, c0⟩ := c0
    have : of < 18 := by
      rcases Nat.lt_or_ge of 18 with h | h
      · exact h
      · rw [List.getElem?_eq_none (by simpa using h)] at c0; cases c0
    have ho : of = 0 ∨ of = 1 ∨ of = 2 ∨ of = 3 ∨ of = 4 ∨ of = 5 ∨ of = 6 ∨ of = 7 ∨ of = 8 ∨ of = 9 ∨ of = 10 ∨ of = 11 ∨ of = 12 ∨ of = 13 ∨ of = 14 ∨ of = 15 ∨ of = 16 ∨ of = 17 := by omega
    rcases ho with rfl | rfl | rfl | rfl | rfl | rfl | rfl | rfl | rfl | rfl | rfl | rfl | rfl | rfl | rfl | rfl | rfl | rfl <;> simp at c0 c1
  refine ⟨ad, ha, by rw [hz]; exact hlt, ?_⟩
  rw [World.cell?_of_block (hk _ hne)]; exact hc
def times4 : List Int := [250, 300, 400, 2592400]
def fates4 : List Int := [2, 1, 2, 3]
def holds4 : List Int := [-1, 5, -1, -1]
theorem fate_ok (j : Nat) (t f o : Int) (h1 : times4[j]? = some t) (h2 : fates4[j]? = some f) (h3 : holds4[j]? = some o) : fateR exV 1 250 t = ((f, o), 0) := by
  rcases j with _ | _ | _ | _ | j
  · cases h1; cases h2; cases h3; exact ex_fate1
  · cases h1; cases h2; cases h3; exact ex_fate2
  · cases h1; cases h2; cases h3; exact ex_fate3
  · cases h1; cases h2; cases h3; exact ex_fate4
  · simp [times4] at h1
theorem ints4 {W : World} {g j : Nat} {cs : Array Value} {ty : TypeId} {l : List Int} {n : Int} (h : W.heap[g]? = some (.cells cs ty)) (hl : cs = (l.map (fun n => Value.int .i64 n)).toArray) (hn : l[j]? = some n) : W.cell? ⟨g, j, none⟩ = some (.int .i64 n) := by
  subst hl
  exact gcell h (by simp [hn])
theorem Ex3.times {p : Nat} {W : World} (h : Ex3 p W) : Span W W.heap.size 1 (some ⟨p + 1, 0, none⟩) 5 (timesV.flatMap inF) := by
  obtain ⟨A, c, e, _, _, h3⟩ := HoldsG.of_block (f := inF) inF_len (l := timesV) (n := 5) rfl (by unfold maxLen; decide) h.2.1
  cases e; exact h3
theorem Ex3.wants {p : Nat} {W : World} (h : Ex3 p W) : Span W W.heap.size 4 (some ⟨p + 1 + 1, 0, none⟩) 5 (wantV.flatMap lnF) := by
  obtain ⟨A, c, e, _, _, h3⟩ := HoldsG.of_block (f := lnF) lnF_len (l := wantV) (n := 5) rfl (by unfold maxLen; decide) h.2.2
  cases e; exact h3
theorem AtPost2Eq (es : List Ev) (t : Int) (w : World) : AtPost2 es t w = fun e w' => e = .returned (.tuple #[lnA (atR es t).1, .int .i64 (atR es t).2]) ∧ Below w.heap.size w w' := rfl
set_option maxRecDepth 100000 in
set_option maxHeartbeats 3200000 in
theorem sane_any (w : World) : Calls Try.prog 4 #[] w fun e w' => e = .returned (.bool true) ∧ Below w.heap.size w w' := by
  go_enter Try.func4, Try.ntmps4
  go_upto_region 4 with (go_at_call 27; refine (example_any _).mono ?_; rintro e w1 ⟨rfl, rfl⟩)
  generalize hW : (((w.alloc _).alloc _).alloc _) = W0
  have B0 : Ex3 w.heap.size W0 := by rw [← hW]; exact ⟨oldcell _ (oldcell _ (new_at _ (by simp))), oldcell _ (new_at _ (by simp)), new_at _ (by simp)⟩
  have HW0 : Below w.heap.size w W0 := by rw [← hW]; exact below_new3 _ _ _ _
  clear hW
  obtain ⟨p, hp⟩ : ∃ p, p = w.heap.size := ⟨_, rfl⟩
  rw [← hp] at B0 ⊢
  have HB0 := Lib.hid HW0
  have HP := Lib.hid hp
  have HE := Lib.hid B0
  clear HW0 hp B0
  go_wp2_with fail
  go_loopw [4] (fun i wr => ∃ j : Nat, j ≤ 5 ∧ i = .int .i64 j ∧ Below W0.heap.size W0 wr) (fun i _ => 5 - (intOf i).toNat)
  case atStart => exact ⟨0, by omega, rfl, Below.refl _ _⟩
  case round =>
    obtain ⟨j, hj, rfl, hb⟩ := hrel
    have E := HE.out.later hb
    have HX := Lib.hid (ex_holds E.1)
    have HB := Lib.hid hb
    have HEE := Lib.hid E
    by_cases hj5 : j < 5
    · obtain ⟨t, ht⟩ : ∃ t, timesV[j]? = some t := ⟨_, List.getElem?_eq_getElem hj5⟩
      obtain ⟨l, hl⟩ : ∃ l, wantV[j]? = some l := ⟨_, List.getElem?_eq_getElem hj5⟩
      obtain ⟨hat, hvl⟩ := want_ok j t l ht hl
      obtain ⟨a, ea, _, hta⟩ := rows_at inF_len E.times (by decide) ht
      cases ea
      have t0 := hta.c0
      rw [Nat.mul_one, add0] at t0
      have HAT := Lib.hid hat
      have tv := Lib.hid hvl
      have HL := Lib.hid hl
      have z0 : (0 : Int) ≤ (j : Int) := by omega
      have z1 : (j : Int) < 5 := by omega
      clear hat hvl hl ht hta E hb
      go_upto_region 8 with (go_at_call 16; refine (lAt_any _ exV t _ HX.out).mono ?_; rw [AtPost2Eq]; rintro e w3 ⟨rfl, hb3⟩; rw [HAT.out]; dsimp only [lnA])
      have hb4 : Below wr.heap.size wr (w3.alloc (.cells #[.int .i64 l.s, .int .i64 l.h, .int .i64 l.e, .int .i64 l.t] 26)) := hb3.alloc hb3.size _
      have k4 := newcell w3 (.cells #[.int .i64 l.s, .int .i64 l.h, .int .i64 l.e, .int .i64 l.t] 26)
      generalize hW4 : w3.alloc (.cells #[.int .i64 l.s, .int .i64 l.h, .int .i64 l.e, .int .i64 l.t] 26) = W4
      rw [hW4] at hb4 k4
      have f2 := HEE.out.later hb4
      obtain ⟨r, hr⟩ : ∃ r, r = w3.heap.size := ⟨_, rfl⟩
      rw [← hr] at k4 ⊢
      have HB4 := Lib.hid hb4
      clear hW4 hr hb3 t0 hb4
      obtain ⟨x0, x1, x2, x3, f5, f6, f7, f8, hrl⟩ := ln_cells k4
      obtain ⟨b, eb, hbl, htb⟩ := rows_at lnF_len f2.wants (by decide) HL.out
      cases eb
      have y0 := htb.c0
      have y1 := htb.ck 0 rfl
      have y2 := htb.ck 1 rfl
      have y3 := htb.ck 2 rfl
      simp only [add0, Nat.reduceAdd] at y0 y1 y2 y3
      clear f2 k4 htb f5 f6 f7 f8
      have guard := fun W => run_eqGuard_agg (P := Try.prog) (w := W) .neq 26
      have hn : ∀ w, (binOp .neq 26 (.agg #[.int .i64 l.s, .int .i64 l.h, .int .i64 l.e, .int .i64 l.t]) (.agg #[.int .i64 l.s, .int .i64 l.h, .int .i64 l.e, .int .i64 l.t])).run Try.prog w = .ok (.bool false) w := fun w => by rw [neqLn]; simp
      go_region_with (go_at_call 13; refine (lvalid_any l _).mono ?_; rintro e w5 ⟨rfl, hb5⟩; rw [tv.out])
      all_goals
        have hbx : Below wr.heap.size wr w5 := by first | exact below_then HB4.out (below_trans (Below.refl _ W4).drew hb5) | exact below_then HB4.out hb5
        go_wp2_with fail
        exact ⟨⟨j + 1, by omega, by go_num, below_then HB.out hbx⟩, by simp [intOf]; omega⟩
    · obtain rfl : j = 5 := by omega
      clear E hb
      rw [show ((5 : Nat) : Int) = 5 from rfl]
      go_upto_region 14 with (go_at_call 18; refine (lkeep_any _ exV 250 _ HX.out).mono ?_; unfold KeepPost; rintro e w3 ⟨rfl, hb3⟩; rw [ex_keep]; dsimp only)
      generalize hW : ((((w3.alloc _).alloc _).alloc _).alloc _) = W5
      have M0 : Ex4 w3.heap.size W5 := by rw [← hW]; exact ⟨oldcell _ (oldcell _ (oldcell _ (new_at _ (by simp)))), oldcell _ (oldcell _ (new_at _ (by simp))), oldcell _ (new_at _ (by simp)), new_at _ (by simp)⟩
      have hb5 : Below wr.heap.size wr W5 := by rw [← hW]; exact ((((hb3.alloc hb3.size _).alloc (by have := hb3.size; simp; omega) _).alloc (by have := hb3.size; simp; omega) _).alloc (by have := hb3.size; simp; omega) _)
      have hq3 : p < w3.heap.size := Nat.lt_of_lt_of_le (heap_lt HEE.out.1) hb3.size
      clear hW
      obtain ⟨q, hq⟩ : ∃ q, q = w3.heap.size := ⟨_, rfl⟩
      rw [← hq] at M0 hq3 ⊢
      have HM := Lib.hid M0
      have HE5 := Lib.hid (HEE.out.later hb5)
      have HB5 := Lib.hid (below_then HB.out hb5)
      clear M0 hb5 hb3 hq
      go_wp2_with fail
      go_loopw [12] (fun i wz => ∃ j : Nat, j ≤ 4 ∧ i = .int .i64 j ∧ Below W5.heap.size W5 wz) (fun i _ => 4 - (intOf i).toNat)
      case atStart => exact ⟨0, by omega, rfl, Below.refl _ _⟩
      case round =>
        obtain ⟨j, hj4, rfl, hb⟩ := hrel
        by_cases hj5 : j < 4
        · have E4 := HM.out.later hb
          obtain ⟨t, ht⟩ : ∃ t, times4[j]? = some t := ⟨_, List.getElem?_eq_getElem hj5⟩
          obtain ⟨f, hf⟩ : ∃ f, fates4[j]? = some f := ⟨_, List.getElem?_eq_getElem hj5⟩
          obtain ⟨o, ho⟩ : ∃ o, holds4[j]? = some o := ⟨_, List.getElem?_eq_getElem hj5⟩
          have HFT := Lib.hid (fate_ok j t f o ht hf ho)
          have HX5 := Lib.hid (ex_holds (HE5.out.later hb).1)
          have HBZ := Lib.hid hb
          have t0 := ints4 E4.2.1 (l := times4) rfl ht
          have m0 := gcell (cs := [.int .i64 1, .int .i64 250]) E4.1 (i := 0) rfl
          have m1 := gcell (cs := [.int .i64 1, .int .i64 250]) E4.1 (i := 1) rfl
          have K4 := Lib.hid E4
          have z0 : (0 : Int) ≤ (j : Int) := by omega
          have z1 : (j : Int) < 4 := by omega
          have HF := Lib.hid hf
          have HO := Lib.hid ho
          clear E4 ht hf ho hb
          go_upto_region 17 with fail
          go_region_with (go_at_call 21; refine (lfate_any _ exV 1 250 t _ (HX5.out.later (Below.refl _ _).drew)).mono ?_; unfold FatePost; rintro e w6 ⟨rfl, hb6⟩; rw [HFT.out]; dsimp only)
          all_goals
            have hb6z : Below wr.heap.size wr w6 := below_trans (Below.refl _ wr).drew hb6
            have K6 := K4.out.later hb6z
            have f0 := ints4 K6.2.2.1 (l := fates4) rfl HF.out
            have o0 := ints4 K6.2.2.2 (l := holds4) rfl HO.out
            clear K6 t0 m0 m1 hb6
            have HB6 := Lib.hid hb6z
            clear hb6z
            go_wp2_with fail
            exact ⟨⟨j + 1, by omega, by go_num, below_then HBZ.out HB6.out⟩, by simp [intOf]; omega⟩
        · obtain rfl : j = 4 := by omega
          rw [show ((4 : Nat) : Int) = 4 from rfl]
          have HEZ := Lib.hid (HE5.out.later hb)
          have HMZ := Lib.hid (HM.out.later hb)
          have HXZ := Lib.hid (ex_holds HEZ.out.1)
          have HBZ := Lib.hid (below_then HB5.out hb)
          clear hb
          go_upto_region 21 with (go_at_call 8; refine (lrun_any _ exV _ HXZ.out).mono ?_; rw [RunPostEq]; rintro e w6 ⟨rfl, hb6⟩; rw [ex_run]; dsimp only [lnA])
          generalize hW : (w6.alloc _) = W7
          have L7 : Ex5 w6.heap.size W7 := by rw [← hW]; exact newcell _ _
          have hb7 : Below wr.heap.size wr W7 := by rw [← hW]; exact hb6.alloc hb6.size _
          obtain ⟨r, hr⟩ : ∃ r, r = w6.heap.size := ⟨_, rfl⟩
          have hqr : q + 3 < r := by rw [hr]; exact Nat.lt_of_lt_of_le (heap_lt HMZ.out.2.2.2) hb6.size
          rw [← hr] at L7 ⊢
          have HE7 := Lib.hid (HEZ.out.later hb7)
          have HM7 := Lib.hid (HMZ.out.later hb7)
          have HL7 := Lib.hid L7
          have HX7 := Lib.hid (ex_holds HE7.out.1)
          have HB7 := Lib.hid (below_then HBZ.out hb7)
          clear hW hb7 hb6 hr L7
          go_upto_region 22 with (go_at_call 10; refine (lstays_any _ exV _ HX7.out).mono ?_; unfold StaysPost; rintro e w8 ⟨vs, rfl, hS8, hb8⟩; rw [ex_stays] at hS8 ⊢; dsimp only at hS8 ⊢; obtain ⟨As, cs, rfl⟩ := holds_form hS8 (n := 2) rfl)
          have HE8 := Lib.hid (HE7.out.later hb8)
          have HM8 := Lib.hid (HM7.out.later hb8)
          have HL8 := Lib.hid (HL7.out.later hb8)
          have HS8 := Lib.hid hS8
          have HB8 := Lib.hid (below_then HB7.out hb8)
          clear hb8 hS8
          have c0 := exc_cells HE8.out
          obtain ⟨c1, c2, c3⟩ := c0
          go_upto_region 23 with (go_at_call 28; refine (lencode_any ⟨1, 100, 5⟩ _).mono ?_; rintro e w9 ⟨rfl, hb9⟩; rw [ex_enc]; dsimp only)
          have HE9 := Lib.hid (HE8.out.later hb9)
          have HM9 := Lib.hid (HM8.out.later hb9)
          have HL9 := Lib.hid (HL8.out.later hb9)
          have HS9 := Lib.hid (HS8.out.later hb9)
          have HB9 := Lib.hid (below_then HB8.out hb9)
          clear hb9 c1 c2 c3
          go_upto_region 24 with (go_at_call 29; refine (ldecode_any ⟨#[2, 200, 1, 10]⟩ _ (by unfold maxLen; decide)).mono ?_; unfold DecPost; rw [show (⟨#[2, 200, 1, 10]⟩ : ByteArray).data.toList = [2, 200, 1, 10] from rfl, ex_dec]; rintro e w10 ⟨rfl, hb10⟩; dsimp only [evA])
          generalize hW : (w10.alloc _) = W11
          have L11 : Ex6 w10.heap.size W11 := by rw [← hW]; exact newcell _ _
          have hb11 : Below w9.heap.size w9 W11 := by rw [← hW]; exact hb10.alloc hb10.size _
          obtain ⟨s, hs⟩ : ∃ s, s = w10.heap.size := ⟨_, rfl⟩
          have hrs : r < s := by rw [hs]; exact Nat.lt_of_lt_of_le (heap_lt HL9.out) hb10.size
          rw [← hs] at L11 ⊢
          have HE11 := Lib.hid (HE9.out.later hb11)
          have HM11 := Lib.hid (HM9.out.later hb11)
          have HL11 := Lib.hid (HL9.out.later hb11)
          have HS11 := Lib.hid (HS9.out.later hb11)
          have HD11 := Lib.hid L11
          have HB11 := Lib.hid (below_then HB9.out hb11)
          clear hW hb11 hb10 hs L11
          obtain ⟨cb, fb, lb⟩ := ex_cell13 HE11.out
          go_upto_region 25 with fail
          generalize hW : (W11.setCell _ _) = W12
          have L12 : Ex3b p W12 := by rw [← hW]; exact exb_set HE11.out
          have h12 : ∀ k, k ≠ p → W12.heap[k]? = W11.heap[k]? := fun k hk => by rw [← hW]; exact set_other _ hk
          have z12 : W12.heap.size = W11.heap.size := by rw [← hW]; simp [World.setCell]
          have hb12 : Below p W11 W12 := by rw [← hW]; exact (Below.refl _ _).setCell (by simp) _
          have HZ := Lib.hid z12
          have HE12 := Lib.hid L12
          have HM12 : Hid (Ex4 q W12) := Lib.hid ⟨(h12 _ (by omega)).trans HM11.out.1, (h12 _ (by omega)).trans HM11.out.2.1, (h12 _ (by omega)).trans HM11.out.2.2.1, (h12 _ (by omega)).trans HM11.out.2.2.2⟩
          have HL12 : Hid (Ex5 r W12) := Lib.hid ((h12 _ (by omega)).trans HL11.out)
          have HD12 : Hid (Ex6 s W12) := Lib.hid ((h12 _ (by omega)).trans HD11.out)
          have HS12 : Hid (HoldsG stc 4 W12 W12.heap.size (.slice As 2 cs) [⟨5, 1, 100, 400⟩, ⟨6, 2, 2592400, 10000001⟩]) := Lib.hid (stays_apart HE11.out HS11.out h12 z12)
          have HB12 : Hid (Below p W0 W12) := Lib.hid ((HB11.out.mono (by have := HB0.out.size; have := HP.out; omega)).trans hb12)
          have HX12 := Lib.hid (exb_holds HE12.out.1)
          clear hW L12 h12 z12 hb12 cb fb lb
          go_upto_region 26 with (go_at_call 8; refine (lrun_any _ exB _ HX12.out).mono ?_; rw [RunPostEq]; rintro e w13 ⟨rfl, hb13⟩; rw [exb_run]; dsimp only [lnA])
          have hb13a : Below W12.heap.size W12 (w13.alloc (.cells #[.int .i64 0, .int .i64 0, .int .i64 0, .int .i64 0] 26)) := hb13.alloc hb13.size _
          generalize hW : (w13.alloc _) = W14
          rw [hW] at hb13a
          have HE14 := Lib.hid (HE12.out.later hb13a)
          have HM14 := Lib.hid (HM12.out.later hb13a)
          have HL14 := Lib.hid (HL12.out.later hb13a)
          have HD14 := Lib.hid (HD12.out.later hb13a)
          have HS14 := Lib.hid (HS12.out.later hb13a)
          have HB14 := Lib.hid (HB12.out.trans (hb13a.mono (Nat.le_of_lt (heap_lt HE12.out.1))))
          obtain ⟨k14, hk14⟩ : ∃ k, k = w13.heap.size := ⟨_, rfl⟩
          rw [← hk14]
          clear hW hb13 hb13a hk14
          go_upto_region 27 with (first
            | (go_at_call 27; refine (example_any _).mono ?_; rintro e w15 ⟨rfl, rfl⟩)
            | (go_at_call 18; refine (lkeep_any _ exV 99 _ (ex_holds (newcell _ _))).mono ?_; unfold KeepPost; rintro e w16 ⟨rfl, hb16⟩; rw [ex_keep2]; dsimp only))
          generalize hW : (w16.alloc _) = W17
          have hb17 : Below W14.heap.size W14 W17 := by rw [← hW]; exact below_then (below_new _ _) (hb16.alloc hb16.size _)
          have HE17 := Lib.hid (HE14.out.later hb17)
          have HM17 := Lib.hid (HM14.out.later hb17)
          have HL17 := Lib.hid (HL14.out.later hb17)
          have HD17 := Lib.hid (HD14.out.later hb17)
          have HS17 := Lib.hid (HS14.out.later hb17)
          have HB17 := Lib.hid (HB14.out.trans (hb17.mono (Nat.le_of_lt (heap_lt HE14.out.1))))
          obtain ⟨k17, hk17⟩ : ∃ k, k = w16.heap.size := ⟨_, rfl⟩
          rw [← hk17]
          clear hW hb16 hb17 hk17
          have m0 := gcell (cs := [.int .i64 1, .int .i64 250]) HM17.out.1 (i := 0) rfl
          have m1 := gcell (cs := [.int .i64 1, .int .i64 250]) HM17.out.1 (i := 1) rfl
          obtain ⟨x0, x1, x2, x3, _, _, _, _, xl⟩ := ln_cells (l := ⟨1, 6, 2, 2592400⟩) HL17.out
          obtain ⟨y0, y1, y2, y3⟩ := want_cells HE17.out
          have guard := fun W => run_eqGuard_agg (P := Try.prog) (w := W) .eql 26
          have guard2 := fun W => run_eqGuard_agg (P := Try.prog) (w := W) .eql 28
          have en : ∀ w, (binOp .eql 26 (.agg #[.int .i64 1, .int .i64 6, .int .i64 2, .int .i64 2592400]) (.agg #[.int .i64 1, .int .i64 6, .int .i64 2, .int .i64 2592400])).run Try.prog w = .ok (.bool true) w := fun w => by rw [eqlLn]; simp
          have em : ∀ w, (binOp .eql 28 (.agg #[.int .i64 1, .int .i64 250]) (.agg #[.int .i64 1, .int .i64 250])).run Try.prog w = .ok (.bool true) w := fun w => by rw [eqlMl]; simp
          go_quiet (fail)
          clear m0 m1 x0 x1 x2 x3 xl y0 y1 y2 y3 guard2 em
          go_upto_region 28 with fail
          clear guard en
          have guard3 := fun W => run_eqGuard_agg (P := Try.prog) (w := W) .eql 54
          have ee : ∀ w, (binOp .eql 54 (.agg #[.int .i64 1, .int .i64 100, .int .i64 5]) (.agg #[.int .i64 1, .int .i64 100, .int .i64 5])).run Try.prog w = .ok (.bool true) w := fun w => by rw [eqlEv]; simp
          go_cut [31] (fun v wx => v = .bool true ∧ Below W17.heap.size W17 wx)
          case first =>
            refine wp_region_any (by kernel_rfl) ?_
            try (change wpAny _ _ _ _ _ _ _ (World.drew _))
            refine wpAny_take (i := 0) (v := ?rv1) rfl (by kernel_rfl) (by kernel_rfl) (by kernel_rfl) (fun _ _ _ h => h) (Or.inl ⟨by kernel_rfl, ?ry1⟩) ?rz1
            case ry1 => intro w; go_simp; try with_reducible rfl
            refine wpAny_take (i := 1) (v := ?rv2) rfl (by kernel_rfl) (by kernel_rfl) (by kernel_rfl) (fun _ _ _ h => h) (Or.inl ⟨by kernel_rfl, ?ry2⟩) ?rz2
            case ry2 => intro w; go_simp; try with_reducible rfl
            refine wpAny_take (i := 2) (v := ?rv3) rfl (by kernel_rfl) (by kernel_rfl) (by kernel_rfl) (fun _ _ _ h => h) (Or.inl ⟨by kernel_rfl, ?ry3⟩) ?rz3
            case ry3 => intro w; go_simp; try with_reducible rfl
            refine wpAny_take (i := 3) (v := ?rv4) rfl (by kernel_rfl) (by kernel_rfl) (by kernel_rfl) (fun _ _ _ h => h) (Or.inl ⟨by kernel_rfl, ?ry4⟩) ?rz4
            case ry4 => intro w; go_simp; try with_reducible rfl
            refine wpAny_take (i := 4) (v := ?rv5) rfl (by kernel_rfl) (by kernel_rfl) (by kernel_rfl) (fun _ _ _ h => h) (Or.inl ⟨by kernel_rfl, ?ry5⟩) ?rz5
            case ry5 => intro w; go_simp; try with_reducible rfl
            refine wpAny_take (i := 5) (v := ?rv6) rfl (by kernel_rfl) (by kernel_rfl) (by kernel_rfl) (fun _ _ _ h => h) (Or.inl ⟨by kernel_rfl, ?ry6⟩) ?rz6
            case ry6 => intro w; go_simp; try with_reducible rfl
            refine wpAny_take (i := 6) (v := ?rv7) rfl (by kernel_rfl) (by kernel_rfl) (by kernel_rfl) (fun _ _ _ h => h) (Or.inl ⟨by kernel_rfl, ?ry7⟩) ?rz7
            case ry7 => intro w; go_simp; try with_reducible rfl
            refine wpAny_take (i := 7) (v := ?rv8) rfl (by kernel_rfl) (by kernel_rfl) (by kernel_rfl) (fun _ _ _ h => h) (Or.inl ⟨by kernel_rfl, ?ry8⟩) ?rz8
            case ry8 => intro w; go_simp; try with_reducible rfl
            refine wpAny_ready (rs := [8]) (by kernel_rfl) (by simp) ?_
            refine AllReady.cons rfl (fun K hK => ?_) AllReady.nil
            go_simp
            refine hK _ _ ?_
            clear hK K
            refine wpAny_ready (rs := [9]) (by kernel_rfl) (by simp) ?_
            refine AllReady.cons rfl (fun K hK => ?_) AllReady.nil
            go_simp
            go_wp2_with (go_at_call 12; refine (rsame_any _ _ stV stV _ (HS17.out.later (by repeat (first | with_reducible exact Below.refl _ _ | with_reducible refine below_drewN ?_ _ | with_reducible refine Below.drew ?_ | with_reducible refine Below.alloc ?_ (by simp) _))) (st_holds (newcell _ _))).mono ?_; rintro e w20 ⟨rfl, hb20⟩; rw [decide_eq_true rfl]; have HB20 := Lib.hid (show Below W17.heap.size W17 w20 from below_trans (by repeat (first | with_reducible exact Below.refl _ _ | with_reducible refine below_drewN ?_ _ | with_reducible refine Below.drew ?_ | with_reducible refine Below.alloc ?_ (by simp) _)) hb20); clear hb20; obtain ⟨d0, d1, d2, _, _, _, dl⟩ := ev_cells (x := ⟨1, 100, 5⟩) (HD17.out.later HB20.out))
            refine wpAny_take (i := 10) (v := ?rv9) rfl (by kernel_rfl) (by kernel_rfl) (by kernel_rfl) (fun _ _ _ h => h) (Or.inl ⟨by kernel_rfl, ?ry9⟩) ?rz9
            case ry9 => intro w; go_simp; try with_reducible rfl
            refine wpAny_take (i := 11) (v := ?rv10) rfl (by kernel_rfl) (by kernel_rfl) (by kernel_rfl) (fun _ _ _ h => h) (Or.inl ⟨by kernel_rfl, ?ry10⟩) ?rz10
            case ry10 => intro w; go_simp; try with_reducible rfl
            refine wpAny_take (i := 12) (v := ?rv11) rfl (by kernel_rfl) (by kernel_rfl) (by kernel_rfl) (fun _ _ _ h => h) (Or.inl ⟨by kernel_rfl, ?ry11⟩) ?rz11
            case ry11 => intro w; go_simp; try with_reducible rfl
            refine wpAny_take (i := 13) (v := ?rv12) rfl (by kernel_rfl) (by kernel_rfl) (by kernel_rfl) (fun _ _ _ h => h) (Or.inl ⟨by kernel_rfl, ?ry12⟩) ?rz12
            case ry12 => intro w; go_simp; try with_reducible rfl
            refine wpAny_take (i := 14) (v := ?rv13) rfl (by kernel_rfl) (by kernel_rfl) (by kernel_rfl) (fun _ _ _ h => h) (Or.inl ⟨by kernel_rfl, ?ry13⟩) ?rz13
            case ry13 => intro w; go_simp; try with_reducible rfl
            refine wpAny_take (i := 15) (v := ?rv14) rfl (by kernel_rfl) (by kernel_rfl) (by kernel_rfl) (fun _ _ _ h => h) (Or.inl ⟨by kernel_rfl, ?ry14⟩) ?rz14
            case ry14 => intro w; go_simp; try with_reducible rfl
            refine wpAny_take (i := 16) (v := ?rv15) rfl (by kernel_rfl) (by kernel_rfl) (by kernel_rfl) (fun _ _ _ h => h) (Or.inl ⟨by kernel_rfl, ?ry15⟩) ?rz15
            case ry15 => intro w; go_simp; try with_reducible rfl
            refine wpAny_take (i := 17) (v := ?rv16) rfl (by kernel_rfl) (by kernel_rfl) (by kernel_rfl) (fun _ _ _ h => h) (Or.inl ⟨by kernel_rfl, ?ry16⟩) ?rz16
            case ry16 => intro w; go_simp; try with_reducible rfl
            refine wpAny_take (i := 18) (v := ?rv17) rfl (by kernel_rfl) (by kernel_rfl) (by kernel_rfl) (fun _ _ _ h => h) (Or.inl ⟨by kernel_rfl, ?ry17⟩) ?rz17
            case ry17 => intro w; go_simp; try with_reducible rfl
            refine wpAny_take (i := 19) (v := ?rv18) rfl (by kernel_rfl) (by kernel_rfl) (by kernel_rfl) (fun _ _ _ h => h) (Or.inl ⟨by kernel_rfl, ?ry18⟩) ?rz18
            case ry18 => intro w; go_simp; try with_reducible rfl
            refine wpAny_take (i := 20) (v := ?rv19) rfl (by kernel_rfl) (by kernel_rfl) (by kernel_rfl) (fun _ _ _ h => h) (Or.inl ⟨by kernel_rfl, ?ry19⟩) ?rz19
            case ry19 => intro w; go_simp; try with_reducible rfl
            refine wpAny_take (i := 21) (v := ?rv20) rfl (by kernel_rfl) (by kernel_rfl) (by kernel_rfl) (fun _ _ _ h => h) (Or.inl ⟨by kernel_rfl, ?ry20⟩) ?rz20
            case ry20 => intro w; go_simp; try with_reducible rfl
            refine wpAny_take (i := 22) (v := ?rv21) rfl (by kernel_rfl) (by kernel_rfl) (by kernel_rfl) (fun _ _ _ h => h) (Or.inl ⟨by kernel_rfl, ?ry21⟩) ?rz21
            case ry21 => intro w; go_simp; try with_reducible rfl
            refine wpAny_take (i := 23) (v := ?rv22) rfl (by kernel_rfl) (by kernel_rfl) (by kernel_rfl) (fun _ _ _ h => h) (Or.inl ⟨by kernel_rfl, ?ry22⟩) ?rz22
            case ry22 => intro w; go_simp; try with_reducible rfl
            refine wpAny_ready (rs := [24, 25]) (by kernel_rfl) (by simp) ?_
            refine AllReady.cons rfl (fun K hK => ?_) ?_
            · skip
              go_simp
              refine hK _ _ ?_
              clear hK K
              refine wpAny_ready (rs := [25]) (by kernel_rfl) (by simp) ?_
              refine AllReady.cons rfl (fun K hK => ?_) AllReady.nil
              go_simp
              go_wp2_with (go_at_call 27; refine (example_any _).mono ?_; rintro e w21 ⟨rfl, rfl⟩)
              refine wpAny_take (i := 26) (v := ?rv23) rfl (by kernel_rfl) (by kernel_rfl) (by kernel_rfl) (fun _ _ _ h => h) (Or.inl ⟨by kernel_rfl, ?ry23⟩) ?rz23
              case ry23 => intro w; go_simp; try with_reducible rfl
              refine wpAny_ready (rs := [27]) (by kernel_rfl) (by simp) ?_
              refine AllReady.cons rfl (fun K hK => ?_) AllReady.nil
              go_simp
              refine hK _ _ ?_
              clear hK K
              refine wpAny_take (i := 28) (v := ?rv24) rfl (by kernel_rfl) (by kernel_rfl) (by kernel_rfl) (fun _ _ _ h => h) (Or.inl ⟨by kernel_rfl, ?ry24⟩) ?rz24
              case ry24 => intro w; go_simp; try with_reducible rfl
              refine wpAny_take (i := 29) (v := ?rv25) rfl (by kernel_rfl) (by kernel_rfl) (by kernel_rfl) (fun _ _ _ h => h) (Or.inl ⟨by kernel_rfl, ?ry25⟩) ?rz25
              case ry25 => intro w; go_simp; try with_reducible rfl
              refine wpAny_take (i := 30) (v := ?rv26) rfl (by kernel_rfl) (by kernel_rfl) (by kernel_rfl) (fun _ _ _ h => h) (Or.inl ⟨by kernel_rfl, ?ry26⟩) ?rz26
              case ry26 => intro w; go_simp; try with_reducible rfl
              refine wpAny_done (by kernel_rfl) ?_ _
              go_wp2_with fail
              go_meet
              exact ⟨rfl, by repeat (first | with_reducible exact HB20.out | with_reducible refine below_drewN ?_ _ | with_reducible refine Below.drew ?_ | with_reducible refine Below.alloc ?_ (by have := HB20.out.size; simp; omega) _)⟩
            refine AllReady.cons rfl (fun K hK => ?_) ?_
            · skip
              go_simp
              go_wp2_with (go_at_call 27; refine (example_any _).mono ?_; rintro e w21 ⟨rfl, rfl⟩)
              refine wpAny_take (i := 26) (v := ?rv27) rfl (by kernel_rfl) (by kernel_rfl) (by kernel_rfl) (fun _ _ _ h => h) (Or.inl ⟨by kernel_rfl, ?ry27⟩) ?rz27
              case ry27 => intro w; go_simp; try with_reducible rfl
              refine wpAny_ready (rs := [24, 27]) (by kernel_rfl) (by simp) ?_
              refine AllReady.cons rfl (fun K hK => ?_) ?_
              · skip
                go_simp
                refine hK _ _ ?_
                clear hK K
                refine wpAny_ready (rs := [27]) (by kernel_rfl) (by simp) ?_
                refine AllReady.cons rfl (fun K hK => ?_) AllReady.nil
                go_simp
                refine hK _ _ ?_
                clear hK K
                refine wpAny_take (i := 28) (v := ?rv28) rfl (by kernel_rfl) (by kernel_rfl) (by kernel_rfl) (fun _ _ _ h => h) (Or.inl ⟨by kernel_rfl, ?ry28⟩) ?rz28
                case ry28 => intro w; go_simp; try with_reducible rfl
                refine wpAny_take (i := 29) (v := ?rv29) rfl (by kernel_rfl) (by kernel_rfl) (by kernel_rfl) (fun _ _ _ h => h) (Or.inl ⟨by kernel_rfl, ?ry29⟩) ?rz29
                case ry29 => intro w; go_simp; try with_reducible rfl
                refine wpAny_take (i := 30) (v := ?rv30) rfl (by kernel_rfl) (by kernel_rfl) (by kernel_rfl) (fun _ _ _ h => h) (Or.inl ⟨by kernel_rfl, ?ry30⟩) ?rz30
                case ry30 => intro w; go_simp; try with_reducible rfl
                refine wpAny_done (by kernel_rfl) ?_ _
                go_wp2_with fail
                go_meet
                exact ⟨rfl, by repeat (first | with_reducible exact HB20.out | with_reducible refine below_drewN ?_ _ | with_reducible refine Below.drew ?_ | with_reducible refine Below.alloc ?_ (by have := HB20.out.size; simp; omega) _)⟩
              refine AllReady.cons rfl (fun K hK => ?_) ?_
              · skip
                go_simp
                refine hK _ _ ?_
                clear hK K
                refine wpAny_ready (rs := [24]) (by kernel_rfl) (by simp) ?_
                refine AllReady.cons rfl (fun K hK => ?_) AllReady.nil
                go_simp
                refine hK _ _ ?_
                clear hK K
                refine wpAny_take (i := 28) (v := ?rv31) rfl (by kernel_rfl) (by kernel_rfl) (by kernel_rfl) (fun _ _ _ h => h) (Or.inl ⟨by kernel_rfl, ?ry31⟩) ?rz31
                case ry31 => intro w; go_simp; try with_reducible rfl
                refine wpAny_take (i := 29) (v := ?rv32) rfl (by kernel_rfl) (by kernel_rfl) (by kernel_rfl) (fun _ _ _ h => h) (Or.inl ⟨by kernel_rfl, ?ry32⟩) ?rz32
                case ry32 => intro w; go_simp; try with_reducible rfl
                refine wpAny_take (i := 30) (v := ?rv33) rfl (by kernel_rfl) (by kernel_rfl) (by kernel_rfl) (fun _ _ _ h => h) (Or.inl ⟨by kernel_rfl, ?ry33⟩) ?rz33
                case ry33 => intro w; go_simp; try with_reducible rfl
                refine wpAny_done (by kernel_rfl) ?_ _
                go_wp2_with fail
                go_meet
                exact ⟨rfl, by repeat (first | with_reducible exact HB20.out | with_reducible refine below_drewN ?_ _ | with_reducible refine Below.drew ?_ | with_reducible refine Below.alloc ?_ (by have := HB20.out.size; simp; omega) _)⟩
              exact AllReady.nil
            exact AllReady.nil
          obtain ⟨rfl, hbc⟩ := hcut
          have HDc := Lib.hid (HD17.out.later hbc)
          have HBc := Lib.hid (HB17.out.trans (hbc.mono (Nat.le_of_lt (heap_lt HE17.out.1))))
          have HPW := Lib.hid (show Below w.heap.size w wc from HB0.out.trans (HP.out ▸ HBc.out))
          clear hbc guard3 ee
          obtain ⟨d0, d1, d2, _, _, _, dl⟩ := ev_cells (x := ⟨1, 100, 5⟩) HDc.out
          have f1 := Lib.hid (show frmB ⟨1, 100, 5⟩ = true by decide)
          have f2 := Lib.hid (show frmB ⟨3, 0, 0⟩ = false by decide)
          have f3 := Lib.hid (show vldB ⟨0, 0, 0, 0⟩ = false by decide)
          go_wp2_with fail
          refine (lformed_any ⟨1, 100, 5⟩ _).mono ?_
          rintro e w22 ⟨rfl, hb22⟩
          rw [f1.out]
          replace HPW := Lib.hid (below_trans HPW.out hb22)
          clear d0 d1 d2 dl hb22
          go_wp2_with fail
          refine (lformed_any ⟨3, 0, 0⟩ _).mono ?_
          rintro e w23 ⟨rfl, hb23⟩
          rw [f2.out]
          replace HPW := Lib.hid (below_trans HPW.out hb23)
          clear hb23
          go_wp2_with fail
          refine (lvalid_any ⟨0, 0, 0, 0⟩ _).mono ?_
          rintro e w24 ⟨rfl, hb24⟩
          rw [f3.out]
          replace HPW := Lib.hid (below_trans HPW.out hb24)
          clear hb24
          go_wp2_with fail
          go_ret
          exact ⟨rfl, HPW.out⟩
end Go.Proofs.Ytjhakonpnopcnaa
