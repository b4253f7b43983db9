/-
  What the plain functions of chains give: all happenings, in order.
-/
import Derived.Test.YtjllgiddmeiaoaaQ13
set_option linter.unusedVariables false
set_option linter.unusedSimpArgs false
set_option maxRecDepth 100000
namespace Go.Proofs.Ytjllgiddmeiaoaa
open Go Go.Sx Go.Dial.Clm Go.Dial.Lif Go.Dial.Chn
theorem ptsV_all {n : Int} {r : Rl} : ∀ {ps : List Pt} {last : Int}, PtsV n r last ps → ∀ p ∈ ps, p.c.n = n ∧ ClmV r p.c p.es
  | [], _, _, p, hp => by cases hp
  | q :: ps, _, h, p, hp => by
    rcases List.mem_cons.1 hp with rfl | hp
    · exact ⟨h.1.1, h.1.2.1⟩
    · exact ptsV_all h.2 p hp
theorem hpsFrom_drop {r : Rl} {ps : List Pt} {i : Nat} {p : Pt} (h : ps[i]? = some p) : hpsFrom r i (ps.drop i) = (timeline r p.c p.es).filterMap (hpOf i) ++ hpsFrom r (i + 1) (ps.drop (i + 1)) := by
  rw [drop_cons h]; rfl
theorem chain_happenings_v (n : Nat) (c : Ch) (h : ChV c) (hn : 200 < n) : chain_happenings n c.n c.f c.r.a c.r.c c.r.s c.r.r (evL c.life) (ptL c.ps) = some (hpL (hps c)) := by
  obtain ⟨_, _, _, _, _, h8, hP⟩ := h
  have htot := hpsFrom_len c.r c.ps 0
  unfold chain_happenings chain_happenings_1
  refine iterF_ind (fun s => ∃ (i : Nat) (A : List Hp), s = (hpL A, (i : Int)) ∧ i ≤ c.ps.length ∧ A ++ hpsFrom c.r i (c.ps.drop i) = hpsFrom c.r 0 c.ps) (fun s => c.ps.length - s.2.toNat) _ ?_ n _ ⟨0, [], rfl, by omega, by simp⟩ (by simp; omega)
  rintro _ go ⟨i, A, rfl, hi, hA⟩ ih
  simp only
  unfold chain_happenings_2
  by_cases hlt : i < c.ps.length
  · obtain ⟨p, hp⟩ := get_lt hlt
    have hc : ∀ k, cA (ptL c.ps) (i : Int) k = (ptR p).getD k (.int 0) := fun k => cA_map (by simpa using hp)
    have g0 : cI (ptL c.ps) i 0 = p.c.n := by simp only [cI, hc]; rfl
    have g1 : cI (ptL c.ps) i 1 = p.c.f := by simp only [cI, hc]; rfl
    have g2 : cI (ptL c.ps) i 2 = p.c.t := by simp only [cI, hc]; rfl
    have g3 : cI (ptL c.ps) i 3 = p.c.h := by simp only [cI, hc]; rfl
    have g4 : cI (ptL c.ps) i 4 = p.c.a := by simp only [cI, hc]; rfl
    have g5 : cB (ptL c.ps) i 5 = p.c.b := by simp only [cB, hc]; rfl
    have g6 : cL (ptL c.ps) i 6 = ceL p.es := by simp only [cL, hc]; rfl
    have c1 : (i : Int) < ((ptL c.ps).length : Int) := by rw [List.length_map]; omega
    have c2 : (0 : Int) ≤ (i : Int) := by omega
    have hv := (ptsV_all hP p (List.mem_of_getElem? hp)).2
    rw [decide_eq_true c1, cond_true, decide_eq_true c2, cond_true, g0, g1, g2, g3, g4, g5, g6, claim_Timeline_v n c.r p.c p.es hn, if_pos hv, Option.bind_some]
    rw [hpsFrom_drop hp] at hA
    obtain ⟨T, hT⟩ : ∃ T, T = timeline c.r p.c p.es := ⟨_, rfl⟩
    have hTl : T.length ≤ 110 := by rw [hT]; exact timeline_len hv.2.2.1
    rw [← hT] at hA ⊢
    refine iterF_ind (fun s => ∃ (k : Nat) (B : List Hp), s = (hpL B, (k : Int)) ∧ k ≤ T.length ∧ B ++ (T.drop k).filterMap (hpOf i) = A ++ T.filterMap (hpOf i)) (fun s => T.length - s.2.toNat) _ ?_ n _ ⟨0, A, rfl, by omega, by simp⟩ (by simp; omega)
    rintro _ go1 ⟨k, B, rfl, hk, hB⟩ ih1
    simp only
    unfold chain_happenings_3
    have hBl : B.length ≤ 16 := by
      have e1 := congrArg List.length hB
      have e2 := congrArg List.length hA
      simp only [List.length_append] at e1 e2
      omega
    have c4 : (-9223372036854775808 : Int) ≤ (k : Int) + 1 := by omega
    have c5 : (k : Int) + 1 ≤ (9223372036854775807 : Int) := by omega
    have c6 : (-9223372036854775808 : Int) ≤ (i : Int) + 1 := by omega
    have c7 : (i : Int) + 1 ≤ (9223372036854775807 : Int) := by omega
    have c8 : (((hpL B).length : Int) + 1) * 24 ≤ 140737488355328 := by rw [List.length_map]; omega
    have c9 : (0 : Int) ≤ (k : Int) := by omega
    by_cases hkt : k < T.length
    · obtain ⟨x, hx⟩ := get_lt hkt
      have hcx : ∀ j, cA (csL T) (k : Int) j = (csR x).getD j (.int 0) := fun j => cA_map (by simpa using hx)
      have x0 : cI (csL T) k 0 = x.s := by simp only [cI, hcx]; rfl
      have x1 : cI (csL T) k 1 = x.f := by simp only [cI, hcx]; rfl
      have c10 : (k : Int) < ((csL T).length : Int) := by rw [List.length_map]; omega
      rw [drop_cons hx, List.filterMap_cons] at hB
      rw [x0, x1, decide_eq_true c10, cond_true, decide_eq_true c9, cond_true]
      by_cases h4 : x.s = 4 ∨ x.s = 8
      · have hh : hpOf i x = some ⟨x.f, i, decide (x.s = 8)⟩ := by unfold hpOf; rw [if_pos h4]
        rw [hh] at hB
        have hgo := ih1 _ ⟨k + 1, B ++ [⟨x.f, i, decide (x.s = 8)⟩], rfl, by omega, by rw [← hB]; simp⟩ (by simp only; omega)
        have e : hpL (B ++ [⟨x.f, i, decide (x.s = 8)⟩]) = hpL B ++ [[AV.int x.f, AV.int (i : Int), AV.bool (decide (x.s = 8))]] := by simp
        rw [e] at hgo
        rcases h4 with h4 | h4
        · rw [decide_eq_true h4, cond_true, decide_eq_true c8, cond_true, decide_eq_true c4, decide_eq_true c5, Bool.and_self, cond_true]; exact hgo
        · have h5 : ¬ x.s = 4 := by omega
          rw [decide_eq_false h5, cond_false, decide_eq_true h4, cond_true, decide_eq_true c8, cond_true, decide_eq_true c4, decide_eq_true c5, Bool.and_self, cond_true]
          rw [decide_eq_true h4] at hgo
          exact hgo
      · have hh : hpOf i x = none := by unfold hpOf; rw [if_neg h4]
        rw [hh] at hB
        have h5 : ¬ x.s = 4 := fun h => h4 (.inl h)
        have h6 : ¬ x.s = 8 := fun h => h4 (.inr h)
        rw [decide_eq_false h5, cond_false, decide_eq_false h6, cond_false, decide_eq_true c4, decide_eq_true c5, Bool.and_self, cond_true]
        exact ih1 _ ⟨k + 1, B, rfl, by omega, hB⟩ (by simp only; omega)
    · have hkk : k = T.length := by omega
      have c10 : ¬ (k : Int) < ((csL T).length : Int) := by rw [List.length_map]; omega
      rw [hkk, List.drop_length] at hB
      simp only [List.filterMap_nil, List.append_nil] at hB
      rw [decide_eq_false c10, cond_false, decide_eq_true c6, decide_eq_true c7, Bool.and_self, cond_true]
      exact ih _ ⟨i + 1, B, rfl, by omega, by rw [hB, List.append_assoc]; exact hA⟩ (by simp only; omega)
  · have h00 : i = c.ps.length := by omega
    have c1 : ¬ (i : Int) < ((ptL c.ps).length : Int) := by rw [List.length_map]; omega
    rw [h00, List.drop_length] at hA
    have hA : A = hpsFrom c.r 0 c.ps := by simpa [hpsFrom] using hA
    have hl : A.length ≤ 19 := by rw [hA]; omega
    have c2 : ¬ (20 : Int) ≤ ((hpL A).length : Int) := by rw [List.length_map]; omega
    rw [decide_eq_false c1, cond_false]
    unfold chain_happenings_4
    rw [decide_eq_false c2, cond_false, sort_all n A hl hn, hA]
    rfl
end Go.Proofs.Ytjllgiddmeiaoaa
