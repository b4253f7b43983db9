/-
  What the plain functions of lives give: runs, the line at a time.
-/
import Derived.Test.YtjhakonpnopcnaaQ1
import Derived.Test.YtjhakonpnopcnaaFB
set_option linter.unusedVariables false
set_option linter.unusedSimpArgs false
set_option maxRecDepth 100000
namespace Go.Proofs.Ytjhakonpnopcnaa
open Go Go.Sx Go.Dial.Lif
abbrev evR (e : Ev) : List AV := [.int e.k, .int e.a, .int e.h]
abbrev evL (es : List Ev) : Lv := es.map evR
abbrev runT (es : List Ev) : Int × Int × Int × Int × Int × Int := ((runR es).1.1.s, (runR es).1.1.h, (runR es).1.1.e, (runR es).1.1.t, ((runR es).1.2 : Int), (runR es).2)
theorem run_stopped {es : List Ev} {i : Nat} {e : Ev} (hA : All first (es.take i)) (h40 : i ≤ 40) (he : es[i]? = some e) (hs : i = 40 ∨ ¬ Ok (fin first (es.take i)) e) : runR es = ((zero, i), 140) := by
  have hi : i < es.length := (List.getElem?_eq_some_iff.1 he).1
  have e1 : es.take 40 = es.take i ++ (es.drop i).take (40 - i) := by
    rw [← List.take_append_drop i (es.take 40), List.take_take, List.drop_take]
    congr 2
    omega
  have e2 : (runF first (es.take 40)).2 = i := by
    rw [e1, runF_app hA]
    have hl : (es.take i).length = i := by simp; omega
    have : (runF (fin first (es.take i)) ((es.drop i).take (40 - i))).2 = 0 := by
      rcases hs with hs | hs
      · subst hs; simp [runF]
      · cases hk : 40 - i with
        | zero => simp [runF]
        | succ k =>
          have : es.drop i = e :: es.drop (i + 1) := by
            rw [List.drop_eq_getElem_cons hi]
            congr 1
            exact (List.getElem?_eq_some_iff.1 he).2
          rw [this, List.take_succ_cons, runF, if_neg hs]
    simp [hl, this]
  rw [runR_no (fun h => ?_), e2]
  have := life_iff.2 h
  omega
theorem run_ended {es : List Ev} {i : Nat} (hA : All first (es.take i)) (h40 : i ≤ 40) (he : i = es.length) : runR es = ((fin first (es.take i), i), 0) := by
  subst he
  rw [List.take_length] at hA ⊢
  exact runR_life ⟨hA, h40⟩
theorem ref14_Run_v (n : Nat) (es : List Ev) (hn : es.length < n) : ref14_Run n (evL es) = some (runT es) := by
  unfold ref14_Run ref14_Run_1
  refine iterF_ind (fun s => ∃ (i : Nat) (l : Ln), s = ((i : Int), l.s, l.h, l.e, l.t) ∧ i ≤ es.length ∧ i ≤ 40 ∧ All first (es.take i) ∧ l = fin first (es.take i)) (fun s => es.length - s.1.toNat) _ ?_ n _ ⟨0, first, rfl, by omega, by omega, trivial, rfl⟩ (by simp; omega)
  rintro _ go ⟨i, l, rfl, hi, h40, hA, hl⟩ ih
  simp only
  unfold ref14_Run_2
  have c2 : (0 : Int) ≤ (i : Int) := by omega
  have c4 : (-9223372036854775808 : Int) ≤ (i : Int) + 1 := by omega
  have c5 : (i : Int) + 1 ≤ (9223372036854775807 : Int) := by omega
  by_cases hlt : i < es.length
  · obtain ⟨e, he⟩ := get_lt hlt
    have hc : ∀ k, cA (evL es) (i : Int) k = (evR e).getD k (.int 0) := fun k => cA_map (by simpa using he)
    have hs : ref14_Step n l.s l.h l.e l.t (cI (evL es) i 0) (cI (evL es) i 1) (cI (evL es) i 2) = some (stepT l e) := by
      simp only [cI, hc]
      exact ref14_Step_v n l e
    have c1 : (i : Int) < (es.length : Int) := by omega
    simp only [hs, List.length_map, Option.bind_some, c1, c2, c4, c5, decide_true, cond_true, Bool.and_self, stepT]
    by_cases hok : Ok l e
    · simp only [stepR_ok hok, decide_true, Bool.not_true, cond_false]
      by_cases h4 : i = 40
      · have h4' : (i : Int) = 40 := by omega
        simp only [h4', decide_true, cond_true]
        unfold runT
        rw [run_stopped hA h40 he (.inl h4), h4]; rfl
      · have h4' : ¬ (i : Int) = 40 := by omega
        simp only [h4', decide_false, cond_false]
        exact ih _ ⟨i + 1, nxt l e, rfl, by omega, by omega, by rw [take_snoc he, all_app]; exact ⟨hA, by rw [← hl]; exact ⟨hok, trivial⟩⟩, by rw [take_snoc he, fin_app, ← hl]; rfl⟩ (by simp only; omega)
    · have e140 : decide ((140 : Int) = 0) = false := rfl
      simp only [stepR_no hok, e140, Bool.not_false, cond_true]
      unfold runT
      rw [run_stopped hA h40 he (.inr (by rw [← hl]; exact hok))]; rfl
  · have h0 : i = es.length := by omega
    have c1 : ¬ (i : Int) < (es.length : Int) := by omega
    simp only [List.length_map, c1, decide_false, cond_false]
    unfold runT
    rw [run_ended hA h40 h0, ← hl, h0]
theorem life_Run_v (n : Nat) (es : List Ev) (hn : es.length < n) : life_Run n (evL es) = some (runT es) := by
  unfold life_Run life_Run_1
  have c1 : 0 ≤ imin ((evL es).length : Int) 40 := by unfold imin; split <;> omega
  have c2 : imin ((evL es).length : Int) 40 ≤ ((evL es).length : Int) := by unfold imin; split <;> omega
  have hT : List.take (imin ((evL es).length : Int) 40).toNat (evL es) = evL (es.take 40) := by
    unfold evL imin
    rw [← List.map_take]
    congr 1
    split
    · rfl
    · rw [List.take_of_length_le (by simp), List.take_of_length_le (by simp at *; omega)]
  simp only [c1, c2, decide_true, cond_true]
  refine iterF_ind (fun s => ∃ (i : Nat) (l : Ln), s = ((i : Int), (i : Int), l.s, l.h, l.e, l.t, l.s, l.h, l.e, l.t) ∧ i ≤ es.length ∧ i ≤ 40 ∧ All first (es.take i) ∧ l = fin first (es.take i)) (fun s => es.length - s.1.toNat) _ ?_ n _ ⟨0, first, rfl, by omega, by omega, trivial, rfl⟩ (by simp; omega)
  rintro _ go ⟨i, l, rfl, hi, h40, hA, hl⟩ ih
  simp only
  unfold life_Run_2
  rw [hT]
  have c2 : (0 : Int) ≤ (i : Int) := by omega
  have c4 : (-9223372036854775808 : Int) ≤ (i : Int) + 1 := by omega
  have c5 : (i : Int) + 1 ≤ (9223372036854775807 : Int) := by omega
  by_cases hlt : i < es.length
  · obtain ⟨e, he⟩ := get_lt hlt
    have c3 : (i : Int) < (es.length : Int) := by omega
    by_cases h4 : i = 40
    · have c1 : ¬ (i : Int) < ((es.take 40).length : Int) := by rw [List.length_take]; omega
      simp only [List.length_map, c1, decide_false, cond_false, c3, decide_true, cond_true]
      unfold runT
      rw [run_stopped hA h40 he (.inl h4)]; rfl
    · have hc : ∀ k, cA (evL (es.take 40)) (i : Int) k = (evR e).getD k (.int 0) := fun k => cA_map (by
        rw [show (i : Int).toNat = i by simp, List.getElem?_take, if_pos (by omega)]; exact he)
      have hs : life_Step n l.s l.h l.e l.t (cI (evL (es.take 40)) i 0) (cI (evL (es.take 40)) i 1) (cI (evL (es.take 40)) i 2) = some (stepT l e) := by
        simp only [cI, hc]
        exact life_Step_v n l e
      have c1 : (i : Int) < ((es.take 40).length : Int) := by rw [List.length_take]; omega
      simp only [hs, List.length_map, c1, c2, c4, c5, decide_true, cond_true, Bool.and_self, Option.bind_some, stepT]
      by_cases hok : Ok l e
      · simp only [stepR_ok hok, decide_true, Bool.not_true, cond_false]
        exact ih _ ⟨i + 1, nxt l e, rfl, by omega, by omega, by rw [take_snoc he, all_app]; exact ⟨hA, by rw [← hl]; exact ⟨hok, trivial⟩⟩, by rw [take_snoc he, fin_app, ← hl]; rfl⟩ (by simp only; omega)
      · have e140 : decide ((140 : Int) = 0) = false := rfl
        simp only [stepR_no hok, e140, Bool.not_false, cond_true, List.length_map, c3, decide_true]
        unfold runT
        rw [run_stopped hA h40 he (.inr (by rw [← hl]; exact hok))]; rfl
  · have h0 : i = es.length := by omega
    have c1 : ¬ (i : Int) < ((es.take 40).length : Int) := by rw [List.length_take]; omega
    have c3 : ¬ (i : Int) < (es.length : Int) := by omega
    simp only [List.length_map, c1, c3, decide_false, cond_false]
    unfold runT
    rw [run_ended hA h40 h0, ← hl]
end Go.Proofs.Ytjhakonpnopcnaa
