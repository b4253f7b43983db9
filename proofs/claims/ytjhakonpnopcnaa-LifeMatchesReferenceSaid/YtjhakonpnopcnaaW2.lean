/-
  What the plain functions of lives give: stays, both ways.
-/
import Derived.Test.YtjhakonpnopcnaaW1
set_option linter.unusedVariables false
set_option linter.unusedSimpArgs false
set_option maxRecDepth 100000
namespace Go.Proofs.Ytjhakonpnopcnaa
open Go Go.Sx Go.Dial.Lif
abbrev staysT (es : List Ev) : Lv × Int := (stL (staysR es).1, (staysR es).2)
theorem fin_t {es : List Ev} {i : Nat} {e : Ev} (he : es[i]? = some e) : (fin first (es.take (i + 1))).t = e.a := by
  rw [take_snoc he, fin_app]
  exact nxt_t _ _
theorem toOf_lt {es : List Ev} {i : Nat} {e : Ev} (he : es[i]? = some e) : toOf es i = e.a := by
  obtain ⟨h1, h2⟩ := List.getElem?_eq_some_iff.1 he
  unfold toOf
  rw [dif_pos h1, h2]
theorem toOf_ge {es : List Ev} {i : Nat} (h : es.length ≤ i) : toOf es i = 10000001 := by
  unfold toOf
  rw [dif_neg (by omega)]
theorem stS_two (out : List St) (h e f to : Int) : stS out ⟨2, h, e, f⟩ to = stS out ⟨1, h, e, f⟩ to := by
  unfold stS Used
  simp
/-- a round of ref Stays, given when the line ends -/
theorem ref_round {α : Type} (G : Lv → Option α) (es : List Ev) (hL : Life es) (i : Nat) (e : Ev) (he : es[i]? = some e) (to : Int) (hto : to = toOf es (i + 1)) :
    (bif (decide (e.a = to)) then G (stL (staysK es i))
      else (bif (decide ((atL es e.a).s = 1)) then G (stL (stS (staysK es i) ⟨1, (atL es e.a).h, (atL es e.a).e, e.a⟩ to))
      else (bif (!(decide ((atL es e.a).s = 2))) then G (stL (staysK es i))
      else G (stL (stS (staysK es i) ⟨1, (atL es e.a).h, (atL es e.a).e, e.a⟩ to))))) = G (stL (staysK es (i + 1))) := by
  obtain ⟨hi, hie⟩ := List.getElem?_eq_some_iff.1 he
  have ht := fin_t he
  rw [staysK, ← hto]
  by_cases h1 : e.a = to
  · rw [decide_eq_true h1, cond_true, stS_no (fun h => h.2 (by rw [ht]; exact h1))]
  · rw [decide_eq_false h1, cond_false]
    have hup : i + 1 = upto es e.a := by
      refine upto_uniq (by omega) (fun j hj => ?_) (fun hj => ?_)
      · have := all_sorted hL.1 (i := j) (j := i) (by omega) hi
        rw [hie] at this; exact this
      · have h2 := toOf_lt (List.getElem?_eq_getElem hj)
        have h3 := all_sorted hL.1 (i := i) (j := i + 1) (by omega) hj
        rw [hie] at h3
        rw [h2] at hto
        omega
    have hat : atL es e.a = fin first (es.take (i + 1)) := by unfold atL; rw [← hup]
    rw [hat]
    obtain ⟨l, hl⟩ : ∃ l, l = fin first (es.take (i + 1)) := ⟨_, rfl⟩
    rw [← hl] at ht ⊢
    obtain ⟨s, h, p, t⟩ := l
    simp only at ht ⊢
    subst ht
    by_cases g1 : s = 1
    · subst g1; rfl
    · by_cases g2 : s = 2
      · subst g2; rw [stS_two]; rfl
      · rw [decide_eq_false g1, cond_false, decide_eq_false g2, Bool.not_false, cond_true, stS_no (fun h => by rcases h.1 with h | h; exact g1 h; exact g2 h)]
theorem ref14_Stays_v (n : Nat) (es : List Ev) (hn : es.length < n) : ref14_Stays n (evL es) = some (staysT es) := by
  unfold ref14_Stays ref14_Stays_1
  rw [ref14_Is_v n es hn, Option.bind_some]
  unfold ref14_Stays_2 staysT staysR
  by_cases hL : Life es
  rotate_left
  · rw [decide_eq_false hL, Bool.not_false, cond_true, if_neg hL]; rfl
  rw [decide_eq_true hL, Bool.not_true, cond_false, if_pos hL]
  refine iterF_ind (fun s => ∃ i : Nat, s = (stL (staysK es i), (i : Int)) ∧ i ≤ es.length) (fun s => es.length - s.2.toNat) _ ?_ n _ ⟨0, rfl, by omega⟩ (by simp; omega)
  rintro _ go ⟨i, rfl, hi⟩ ih
  simp only
  unfold ref14_Stays_3
  have hlen : ((evL es).length : Int) = (es.length : Int) := by rw [List.length_map]
  have h40 := hL.2
  by_cases hlt : i < es.length
  · obtain ⟨e, he⟩ := get_lt hlt
    have c1 : (i : Int) < ((evL es).length : Int) := by omega
    have c2 : (0 : Int) ≤ (i : Int) := by omega
    have c4 : (-9223372036854775808 : Int) ≤ (i : Int) + 1 := by omega
    have c5 : (i : Int) + 1 ≤ (9223372036854775807 : Int) := by omega
    have hgo : go (stL (staysK es (i + 1)), (i : Int) + 1) = some (stL (staysL es), 0) := ih _ ⟨i + 1, rfl, by omega⟩ (by simp only; omega)
    have hc : ∀ k, cA (evL es) (i : Int) k = (evR e).getD k (.int 0) := fun k => cA_map (by simpa using he)
    have x1 : cI (evL es) (i : Int) 1 = e.a := by simp only [cI, hc]; rfl
    have hk := staysK_len es i
    rw [decide_eq_true c1, cond_true, decide_eq_true c2, cond_true, decide_eq_true c4, decide_eq_true c5, Bool.and_self, cond_true]
    unfold ref14_Stays_4
    rw [x1, ref14_at_v n es e.a hL hn]
    simp only [Option.bind_some]
    by_cases hlt2 : i + 1 < es.length
    · obtain ⟨e2, he2⟩ := get_lt hlt2
      have c6 : (i : Int) + 1 < ((evL es).length : Int) := by omega
      have c7 : (0 : Int) ≤ (i : Int) + 1 := by omega
      have hc2 : ∀ k, cA (evL es) ((i : Int) + 1) k = (evR e2).getD k (.int 0) := fun k => cA_map (by rw [show ((i : Int) + 1).toNat = i + 1 by omega]; exact he2)
      have x2 : cI (evL es) ((i : Int) + 1) 1 = e2.a := by simp only [cI, hc2]; rfl
      rw [decide_eq_true c6, cond_true, decide_eq_true c7, cond_true, x2]
      by_cases hf : e.a = e2.a
      · have := ref_round (fun v => go (v, (i : Int) + 1)) es hL i e he e2.a (toOf_lt he2).symm
        rw [decide_eq_true hf, cond_true] at this ⊢
        exact this.trans hgo
      · rw [stay_add (fun v => go (v, (i : Int) + 1)) (staysK es i) 1 _ _ e.a e2.a (by omega) (.inl rfl) hf]
        exact (ref_round (fun v => go (v, (i : Int) + 1)) es hL i e he e2.a (toOf_lt he2).symm).trans hgo
    · have c6 : ¬ (i : Int) + 1 < ((evL es).length : Int) := by omega
      rw [decide_eq_false c6, cond_false]
      have hto := (toOf_ge (es := es) (i := i + 1) (by omega)).symm
      by_cases hf : e.a = 10000001
      · have := ref_round (fun v => go (v, (i : Int) + 1)) es hL i e he 10000001 hto
        rw [decide_eq_true hf, cond_true] at this ⊢
        exact this.trans hgo
      · rw [stay_add (fun v => go (v, (i : Int) + 1)) (staysK es i) 1 _ _ e.a 10000001 (by omega) (.inl rfl) hf]
        exact (ref_round (fun v => go (v, (i : Int) + 1)) es hL i e he 10000001 hto).trans hgo
  · have h0 : i = es.length := by omega
    have c1 : ¬ (i : Int) < ((evL es).length : Int) := by omega
    rw [decide_eq_false c1, cond_false, h0]
    rfl
/-- a round of life's Stays -/
theorem life_round {α : Type} (G : Lv → Option α) (es : List Ev) (i : Nat) (l : Ln) (hl : l = fin first (es.take (i + 1))) (to : Int) (hto : to = toOf es (i + 1)) :
    (bif (decide (l.s = 1)) then (bif (decide (l.t = to)) then G (stL (staysK es i)) else G (stL (stS (staysK es i) ⟨1, l.h, l.e, l.t⟩ to)))
      else (bif (!(decide (l.s = 2))) then G (stL (staysK es i))
      else (bif (decide (l.t = to)) then G (stL (staysK es i)) else G (stL (stS (staysK es i) ⟨1, l.h, l.e, l.t⟩ to))))) = G (stL (staysK es (i + 1))) := by
  rw [staysK, ← hto, ← hl]
  clear hl
  obtain ⟨s, h, p, t⟩ := l
  simp only
  by_cases g1 : s = 1
  · subst g1
    by_cases ht : t = to
    · rw [decide_eq_true rfl, cond_true, decide_eq_true ht, cond_true, stS_no (fun h => h.2 ht)]
    · rw [decide_eq_true rfl, cond_true, decide_eq_false ht, cond_false]
  · by_cases g2 : s = 2
    · subst g2
      by_cases ht : t = to
      · rw [decide_eq_false g1, cond_false, decide_eq_true rfl, Bool.not_true, cond_false, decide_eq_true ht, cond_true, stS_no (fun h => h.2 ht)]
      · rw [decide_eq_false g1, cond_false, decide_eq_true rfl, Bool.not_true, cond_false, decide_eq_false ht, cond_false, stS_two]
    · rw [decide_eq_false g1, cond_false, decide_eq_false g2, Bool.not_false, cond_true, stS_no (fun h => by rcases h.1 with h | h; exact g1 h; exact g2 h)]
theorem life_Stays_v (n : Nat) (es : List Ev) (hn : es.length < n) : life_Stays n (evL es) = some (staysT es) := by
  unfold life_Stays life_Stays_1
  rw [life_Run_v n es hn, Option.bind_some]
  unfold life_Stays_2 staysT staysR runT
  by_cases hL : Life es
  rotate_left
  · rw [runR_no hL, if_neg hL]; rfl
  rw [runR_life hL, if_pos hL]
  simp only
  rw [decide_eq_true True.intro, Bool.not_true, cond_false]
  refine iterF_ind (fun s => ∃ (i : Nat) (l : Ln), s = ((i : Int), stL (staysK es i), l.s, l.h, l.e, l.t) ∧ i ≤ es.length ∧ l = fin first (es.take i)) (fun s => es.length - s.1.toNat) _ ?_ n _ ⟨0, first, rfl, by omega, rfl⟩ (by simp; omega)
  rintro _ go ⟨i, l, rfl, hi, hl⟩ ih
  simp only
  unfold life_Stays_3
  have hlen : ((evL es).length : Int) = (es.length : Int) := by rw [List.length_map]
  have h40 := hL.2
  by_cases hlt : i < es.length
  · obtain ⟨e, he⟩ := get_lt hlt
    have c1 : (i : Int) < ((evL es).length : Int) := by omega
    have c2 : (0 : Int) ≤ (i : Int) := by omega
    have c4 : (-9223372036854775808 : Int) ≤ (i : Int) + 1 := by omega
    have c5 : (i : Int) + 1 ≤ (9223372036854775807 : Int) := by omega
    have hc : ∀ k, cA (evL es) (i : Int) k = (evR e).getD k (.int 0) := fun k => cA_map (by simpa using he)
    have x0 : cI (evL es) (i : Int) 0 = e.k := by simp only [cI, hc]; rfl
    have x1 : cI (evL es) (i : Int) 1 = e.a := by simp only [cI, hc]; rfl
    have x2 : cI (evL es) (i : Int) 2 = e.h := by simp only [cI, hc]; rfl
    have hok : Ok l e := by
      have := all_take hL.1 (i + 1)
      rw [take_snoc he, all_app, ← hl] at this
      exact this.2.1
    have hm : nxt l e = fin first (es.take (i + 1)) := by rw [take_snoc he, fin_app, ← hl]; rfl
    have hgo : go ((i : Int) + 1, stL (staysK es (i + 1)), (nxt l e).s, (nxt l e).h, (nxt l e).e, (nxt l e).t) = some (stL (staysL es), 0) := ih _ ⟨i + 1, nxt l e, rfl, by omega, hm⟩ (by simp only; omega)
    have hk := staysK_len es i
    rw [decide_eq_true c1, cond_true, decide_eq_true c2, cond_true, x0, x1, x2, life_Step_v n l e, Option.bind_some]
    unfold stepT
    rw [stepR_ok hok]
    simp only
    unfold life_Stays_4
    rw [decide_eq_true (rfl : (0 : Int) = 0), Bool.not_true, cond_false]
    unfold life_Stays_5
    rw [decide_eq_true c4, decide_eq_true c5, Bool.and_self, cond_true, cond_true]
    obtain ⟨m, hmm⟩ : ∃ m, m = nxt l e := ⟨_, rfl⟩
    rw [← hmm] at hm hgo ⊢
    by_cases hlt2 : i + 1 < es.length
    · obtain ⟨e2, he2⟩ := get_lt hlt2
      have c6 : (i : Int) + 1 < ((evL es).length : Int) := by omega
      have c7 : (0 : Int) ≤ (i : Int) + 1 := by omega
      have hc2 : ∀ k, cA (evL es) ((i : Int) + 1) k = (evR e2).getD k (.int 0) := fun k => cA_map (by rw [show ((i : Int) + 1).toNat = i + 1 by omega]; exact he2)
      have y2 : cI (evL es) ((i : Int) + 1) 1 = e2.a := by simp only [cI, hc2]; rfl
      have hr := life_round (fun v => go ((i : Int) + 1, v, m.s, m.h, m.e, m.t)) es i m hm e2.a (toOf_lt he2).symm
      rw [decide_eq_true c6, cond_true, decide_eq_true c7, cond_true, y2]
      by_cases hf : m.t = e2.a
      · rw [decide_eq_true hf, cond_true] at hr ⊢
        exact hr.trans hgo
      · rw [stay_add (fun v => go ((i : Int) + 1, v, m.s, m.h, m.e, m.t)) (staysK es i) 1 m.h m.e m.t e2.a (by omega) (.inl rfl) hf]
        exact hr.trans hgo
    · have c6 : ¬ (i : Int) + 1 < ((evL es).length : Int) := by omega
      have hto := (toOf_ge (es := es) (i := i + 1) (by omega)).symm
      have hr := life_round (fun v => go ((i : Int) + 1, v, m.s, m.h, m.e, m.t)) es i m hm 10000001 hto
      rw [decide_eq_false c6, cond_false]
      by_cases hf : m.t = 10000001
      · rw [decide_eq_true hf, cond_true] at hr ⊢
        exact hr.trans hgo
      · rw [stay_add (fun v => go ((i : Int) + 1, v, m.s, m.h, m.e, m.t)) (staysK es i) 1 m.h m.e m.t 10000001 (by omega) (.inl rfl) hf]
        exact hr.trans hgo
  · have h0 : i = es.length := by omega
    have c1 : ¬ (i : Int) < ((evL es).length : Int) := by omega
    rw [decide_eq_false c1, cond_false, h0]
    rfl
end Go.Proofs.Ytjhakonpnopcnaa
