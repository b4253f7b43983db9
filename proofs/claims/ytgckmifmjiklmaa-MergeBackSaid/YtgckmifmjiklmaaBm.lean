/-
  Maps of blocks, the reference: Give, Take, drawn maps.
-/
import Derived.Test.YtgckmifmjiklmaaBc
set_option linter.unusedVariables false
set_option linter.unusedSimpArgs false
set_option maxRecDepth 100000
namespace Go.Proofs.Ytgckmifmjiklmaa
open Go Go.Sx Go.Dial.Blk
theorem canon_one {f t c : Int} (h0 : 0 ≤ f) (h1 : f < t) (h2 : t ≤ 100000000) (h3 : 0 ≤ c) (h4 : c ≤ 7) : Canon [⟨f, t, c⟩] := ⟨h0, h1, h2, h3, h4, h0, fun _ => by show c ≠ -1; omega, trivial⟩
theorem combR_ok {g : Int → Int} (h : IsMap g (mapOf g)) : Canon (combR g).1 ∧ (combR g).1.length ≤ 40 := by
  unfold combR
  split
  · rename_i hl; exact ⟨h.1, hl⟩
  · exact ⟨trivial, by simp⟩
theorem ref13_Give_v (n : Nat) (l : List B3) (f t c : Int) (hc : Canon l) (hl : l.length ≤ 40) (h0 : 0 ≤ f) (h1 : f < t) (h2 : t ≤ 100000000) (h3 : 0 ≤ c) (h4 : c ≤ 7) (hn : 210 < n) :
    ref13_Give n (bL l) f t c = some (bL (combR fun m => gcR 0 (-1) (-1) (hold l m) (hold [⟨f, t, c⟩] m)).1, (combR fun m => gcR 0 (-1) (-1) (hold l m) (hold [⟨f, t, c⟩] m)).2) ∧ IsMap (fun m => gcR 0 (-1) (-1) (hold l m) (hold [⟨f, t, c⟩] m)) (mapOf fun m => gcR 0 (-1) (-1) (hold l m) (hold [⟨f, t, c⟩] m)) := by
  have hV : vldB l = true := (vldB_iff l).2 ⟨hl, hc⟩
  obtain ⟨e1, e2⟩ := ref13_combine_v n l [⟨f, t, c⟩] 0 (-1) (-1) hc (canon_one h0 h1 h2 h3 h4) (by omega) (by simp) (.inl rfl) (by decide) hn
  refine ⟨?_, e2⟩
  unfold ref13_Give ref13_Give_1
  rw [ref13_Valid_v n l (by omega), Option.bind_some, hV, Bool.not_true, cond_false, decide_eq_true h0, cond_true, decide_eq_true h1, cond_true, decide_eq_true h2, Bool.not_true, cond_false, decide_eq_true h3, cond_true, decide_eq_true h4, Bool.not_true, cond_false]
  have : ([] : Lv) ++ [[AV.int f, AV.int t, AV.int c]] = bL [⟨f, t, c⟩] := rfl
  rw [this, e1]; rfl
theorem ref13_Take_v (n : Nat) (l : List B3) (f t : Int) (hc : Canon l) (hl : l.length ≤ 40) (h0 : 0 ≤ f) (h1 : f < t) (h2 : t ≤ 100000000) (hn : 210 < n) :
    ref13_Take n (bL l) f t = some (bL (combR fun m => gcR 1 (-1) (-1) (hold l m) (hold [⟨f, t, 0⟩] m)).1, (combR fun m => gcR 1 (-1) (-1) (hold l m) (hold [⟨f, t, 0⟩] m)).2) ∧ IsMap (fun m => gcR 1 (-1) (-1) (hold l m) (hold [⟨f, t, 0⟩] m)) (mapOf fun m => gcR 1 (-1) (-1) (hold l m) (hold [⟨f, t, 0⟩] m)) := by
  have hV : vldB l = true := (vldB_iff l).2 ⟨hl, hc⟩
  obtain ⟨e1, e2⟩ := ref13_combine_v n l [⟨f, t, 0⟩] 1 (-1) (-1) hc (canon_one h0 h1 h2 (by decide) (by decide)) (by omega) (by simp) (.inr (.inl rfl)) (by decide) hn
  refine ⟨?_, e2⟩
  unfold ref13_Take ref13_Take_1
  rw [ref13_Valid_v n l (by omega), Option.bind_some, hV, Bool.not_true, cond_false, decide_eq_true h0, cond_true, decide_eq_true h1, cond_true, decide_eq_true h2, Bool.not_true, cond_false]
  have : ([] : Lv) ++ [[AV.int f, AV.int t, AV.int 0]] = bL [⟨f, t, 0⟩] := rfl
  rw [this, e1]; rfl
theorem ref13_Made_v (n : Nat) (xs : List (Int × Int × Int)) (hx : ∀ x ∈ xs, In64 x.1 ∧ In64 x.2.1 ∧ In64 x.2.2) (hn : 210 < n) : ∃ l, ref13_Made n (xs.map triR) = some (bL l) ∧ Canon l ∧ l.length ≤ 40 := by
  have main : ∃ q, ref13_Made n (xs.map triR) = some q ∧ ∃ l, q = bL l ∧ Canon l ∧ l.length ≤ 40 := by
    unfold ref13_Made ref13_Made_1
    refine iterF_ex (fun s => ∃ (i : Nat) (l : List B3), s = (bL l, (i : Int)) ∧ i ≤ xs.length ∧ i ≤ 12 ∧ Canon l ∧ l.length ≤ 40) (fun s => 12 - s.2.toNat) _ ?_ n _ ⟨0, [], rfl, by omega, by omega, trivial, by simp⟩ (by simp; omega)
    rintro _ go ⟨i, l, rfl, hi, h12, hc, hl⟩ ih
    simp only at ih ⊢
    unfold ref13_Made_2
    by_cases hlt : i < xs.length
    · obtain ⟨x, hxx⟩ := get_lt hlt
      have hcell : ∀ k, cA (xs.map triR) (i : Int) k = (triR x).getD k (.int 0) := fun k => cA_map (by simpa using hxx)
      have g0 : cI (xs.map triR) i 0 = x.1 := by simp only [cI, hcell]; rfl
      have g1 : cI (xs.map triR) i 1 = x.2.1 := by simp only [cI, hcell]; rfl
      have g2 : cI (xs.map triR) i 2 = x.2.2 := by simp only [cI, hcell]; rfl
      obtain ⟨x0, x1, x2⟩ := hx x (List.mem_of_getElem? hxx)
      have c1 : (i : Int) < ((xs.map triR).length : Int) := by rw [List.length_map]; omega
      have c2 : (0 : Int) ≤ (i : Int) := by omega
      have c4 : (-9223372036854775808 : Int) ≤ (i : Int) + 1 := by omega
      have c5 : (i : Int) + 1 ≤ (9223372036854775807 : Int) := by omega
      obtain ⟨p0, p1, p2⟩ := pieceR_bd x.1 x.2.1
      have hk := pk_bd x.2.2 (k := 5) (by decide)
      by_cases h2 : (i : Int) < 12
      · rw [decide_eq_true c1, cond_true, decide_eq_true h2, cond_true, decide_eq_true c2, cond_true, g0, g1, g2, ref13_Piece_v n x0 x1, Option.bind_some, ref13_pick_v n x2 (by decide), Option.bind_some]
        by_cases h3 : pk x.2.2 5 < 4
        · have d1 : (-9223372036854775808 : Int) ≤ 2 * pk x.2.2 5 := by omega
          have d2 : 2 * pk x.2.2 5 ≤ (9223372036854775807 : Int) := by omega
          obtain ⟨e1, e2⟩ := ref13_Give_v n l _ _ (2 * pk x.2.2 5) hc hl p0 p1 p2 (by omega) (by omega) hn
          obtain ⟨o1, o2⟩ := combR_ok e2
          rw [decide_eq_true h3, cond_true, decide_eq_true d1, decide_eq_true d2, Bool.and_self, cond_true, e1, Option.bind_some, decide_eq_true c4, decide_eq_true c5, Bool.and_self, cond_true]
          exact ih _ ⟨i + 1, _, by simp only; rfl, by omega, by omega, o1, o2⟩ (by first | omega | (simp only; omega))
        · obtain ⟨e1, e2⟩ := ref13_Take_v n l _ _ hc hl p0 p1 p2 hn
          obtain ⟨o1, o2⟩ := combR_ok e2
          rw [decide_eq_false h3, cond_false, e1, Option.bind_some, decide_eq_true c4, decide_eq_true c5, Bool.and_self, cond_true]
          exact ih _ ⟨i + 1, _, by simp only; rfl, by omega, by omega, o1, o2⟩ (by first | omega | (simp only; omega))
      · rw [decide_eq_true c1, cond_true, decide_eq_false h2, cond_false]
        exact ⟨_, rfl, l, rfl, hc, hl⟩
    · have c1 : ¬ (i : Int) < ((xs.map triR).length : Int) := by rw [List.length_map]; omega
      rw [decide_eq_false c1, cond_false]
      exact ⟨_, rfl, l, rfl, hc, hl⟩
  obtain ⟨_, h1, l, rfl, h2, h3⟩ := main
  exact ⟨l, h1, h2, h3⟩
end Go.Proofs.Ytgckmifmjiklmaa
