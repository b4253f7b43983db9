/-
  What the plain functions of chains give: which ports are open, and when all deadlines have passed.
-/
import Derived.Test.YtjllgiddmeiaoaaQ14
import Derived.Test.YtjllgiddmeiaoaaD6
set_option linter.unusedVariables false
set_option linter.unusedSimpArgs false
set_option maxRecDepth 100000
namespace Go.Proofs.Ytjllgiddmeiaoaa
open Go Go.Sx Go.Dial.Clm Go.Dial.Lif Go.Dial.Chn
/-- when all deadlines of ports have passed -/
def settledV (r : Rl) (ps : List Pt) : Int := ps.foldl (fun m p => imax m (endsV r p.c)) 0
/-- the ports that are open at a time -/
def openFrom (r : Rl) (t : Int) : Nat → List Pt → List Nat
  | _, [] => []
  | i, p :: ps => (if 1 ≤ (outV r p.c p.es t).s ∧ (outV r p.c p.es t).s ≤ 4 then [i] else []) ++ openFrom r t (i + 1) ps
abbrev ixL (l : List Nat) : Lv := l.map fun i : Nat => [AV.int (i : Int)]
theorem openFrom_len (r : Rl) (t : Int) : ∀ (ps : List Pt) (i : Nat), (openFrom r t i ps).length ≤ ps.length
  | [], _ => by simp [openFrom]
  | p :: ps, i => by
    have := openFrom_len r t ps (i + 1)
    simp only [openFrom, List.length_append, List.length_cons]
    split <;> simp <;> omega
section
variable (c : Ch)
theorem port_cells {ps : List Pt} {i : Nat} {p : Pt} (hp : ps[i]? = some p) : cI (ptL ps) i 0 = p.c.n ∧ cI (ptL ps) i 1 = p.c.f ∧ cI (ptL ps) i 2 = p.c.t ∧ cI (ptL ps) i 3 = p.c.h ∧ cI (ptL ps) i 4 = p.c.a ∧ cB (ptL ps) i 5 = p.c.b ∧ cL (ptL ps) i 6 = ceL p.es := by
  have hc : ∀ k, cA (ptL ps) (i : Int) k = (ptR p).getD k (.int 0) := fun k => cA_map (by simpa using hp)
  refine ⟨?_, ?_, ?_, ?_, ?_, ?_, ?_⟩ <;> simp only [cI, cB, cL, hc] <;> rfl
theorem chain_Settled_v (n : Nat) (c : Ch) (hl : c.life.length < n) (hn : 200 < n) : chain_Settled n c.n c.f c.r.a c.r.c c.r.s c.r.r (evL c.life) (ptL c.ps) = some (if ChV c then (settledV c.r c.ps, 0) else (0, 170)) := by
  unfold chain_Settled chain_Settled_1
  rw [chain_Valid_v n c hl hn, Option.bind_some]
  by_cases h : ChV c
  · obtain ⟨_, _, _, _, _, h8, hP⟩ := id h
    rw [if_pos h, decide_eq_true h, Bool.not_true, cond_false]
    refine iterF_ind (fun s => ∃ (i : Nat) (m : Int), s = (m, (i : Int)) ∧ i ≤ c.ps.length ∧ (c.ps.drop i).foldl (fun m p => imax m (endsV c.r p.c)) m = settledV c.r c.ps) (fun s => c.ps.length - s.2.toNat) _ ?_ n _ ⟨0, 0, rfl, by omega, by simp [settledV]⟩ (by simp; omega)
    rintro _ go ⟨i, m, rfl, hi, hm⟩ ih
    simp only
    unfold chain_Settled_2
    by_cases hlt : i < c.ps.length
    · obtain ⟨p, hp⟩ := get_lt hlt
      obtain ⟨g0, g1, g2, g3, g4, g5, _⟩ := port_cells hp
      have c1 : (i : Int) < ((ptL c.ps).length : Int) := by rw [List.length_map]; omega
      have c2 : (0 : Int) ≤ (i : Int) := by omega
      have c4 : (-9223372036854775808 : Int) ≤ (i : Int) + 1 := by omega
      have c5 : (i : Int) + 1 ≤ (9223372036854775807 : Int) := by omega
      have hv := (ptsV_all hP p (List.mem_of_getElem? hp)).2
      rw [decide_eq_true c1, cond_true, decide_eq_true c2, cond_true, g0, g1, g2, g3, g4, g5, claim_Ends_v n c.r p.c (by omega), if_pos ⟨hv.1, hv.2.1⟩, Option.bind_some, decide_eq_true c4, decide_eq_true c5, Bool.and_self, cond_true]
      rw [drop_cons hp] at hm
      exact ih _ ⟨i + 1, imax m (endsV c.r p.c), rfl, by omega, hm⟩ (by simp only; omega)
    · have h00 : i = c.ps.length := by omega
      have c1 : ¬ (i : Int) < ((ptL c.ps).length : Int) := by rw [List.length_map]; omega
      rw [h00, List.drop_length] at hm
      rw [decide_eq_false c1, cond_false, ← hm]; rfl
  · rw [if_neg h, decide_eq_false h, Bool.not_false, cond_true]
theorem chain_Open_v (n : Nat) (c : Ch) (t : Int) (hl : c.life.length < n) (hn : 200 < n) : chain_Open n c.n c.f c.r.a c.r.c c.r.s c.r.r (evL c.life) (ptL c.ps) t = some (if ChV c ∧ 0 ≤ t ∧ t ≤ 20000000 then (ixL (openFrom c.r t 0 c.ps), 0) else ([], 170)) := by
  unfold chain_Open chain_Open_1
  rw [chain_Valid_v n c hl hn, Option.bind_some]
  by_cases h : ChV c
  · obtain ⟨_, _, _, _, _, h8, hP⟩ := id h
    rw [decide_eq_true h, Bool.not_true, cond_false]
    by_cases h0 : 0 ≤ t
    · by_cases h1 : t ≤ 20000000
      · rw [if_pos ⟨h, h0, h1⟩, decide_eq_true h0, cond_true, decide_eq_true h1, Bool.not_true, cond_false]
        refine iterF_ind (fun s => ∃ (i : Nat) (A : List Nat), s = (ixL A, (i : Int)) ∧ i ≤ c.ps.length ∧ A ++ openFrom c.r t i (c.ps.drop i) = openFrom c.r t 0 c.ps) (fun s => c.ps.length - s.2.toNat) _ ?_ n _ ⟨0, [], by simp, by omega, by simp⟩ (by simp; omega)
        rintro _ go ⟨i, A, rfl, hi, hA⟩ ih
        simp only
        unfold chain_Open_2
        by_cases hlt : i < c.ps.length
        · obtain ⟨p, hp⟩ := get_lt hlt
          obtain ⟨g0, g1, g2, g3, g4, g5, g6⟩ := port_cells hp
          have c1 : (i : Int) < ((ptL c.ps).length : Int) := by rw [List.length_map]; omega
          have c2 : (0 : Int) ≤ (i : Int) := by omega
          have c4 : (-9223372036854775808 : Int) ≤ (i : Int) + 1 := by omega
          have c5 : (i : Int) + 1 ≤ (9223372036854775807 : Int) := by omega
          have hAl : A.length ≤ 8 := by
            have e1 := congrArg List.length hA
            have e2 := openFrom_len c.r t c.ps 0
            simp only [List.length_append] at e1
            omega
          have c8 : (((ixL A).length : Int) + 1) * 8 ≤ 140737488355328 := by rw [List.length_map]; omega
          have hv := (ptsV_all hP p (List.mem_of_getElem? hp)).2
          have hO : outR c.r p.c p.es t = (outV c.r p.c p.es t, 0) := by unfold outR; rw [if_pos ⟨hv, h0, h1⟩]
          rw [decide_eq_true c1, cond_true, decide_eq_true c2, cond_true, g0, g1, g2, g3, g4, g5, g6, claim_Outcome_v n c.r p.c p.es t hn, Option.bind_some, hO]
          rw [drop_cons hp] at hA
          have hO2 : openFrom c.r t i (p :: c.ps.drop (i + 1)) = (if 1 ≤ (outV c.r p.c p.es t).s ∧ (outV c.r p.c p.es t).s ≤ 4 then [i] else []) ++ openFrom c.r t (i + 1) (c.ps.drop (i + 1)) := rfl
          rw [hO2] at hA
          by_cases k1 : 1 ≤ (outV c.r p.c p.es t).s
          · by_cases k2 : (outV c.r p.c p.es t).s ≤ 4
            · rw [decide_eq_true k1, cond_true, decide_eq_true k2, cond_true, decide_eq_true c8, cond_true, decide_eq_true c4, decide_eq_true c5, Bool.and_self, cond_true]
              rw [if_pos ⟨k1, k2⟩] at hA
              exact ih _ ⟨i + 1, A ++ [i], by simp, by omega, by rw [List.append_assoc]; exact hA⟩ (by simp only; omega)
            · rw [decide_eq_true k1, cond_true, decide_eq_false k2, cond_false, decide_eq_true c4, decide_eq_true c5, Bool.and_self, cond_true]
              rw [if_neg (fun h => k2 h.2), List.nil_append] at hA
              exact ih _ ⟨i + 1, A, by simp, by omega, hA⟩ (by simp only; omega)
          · rw [decide_eq_false k1, cond_false, decide_eq_true c4, decide_eq_true c5, Bool.and_self, cond_true]
            rw [if_neg (fun h => k1 h.1), List.nil_append] at hA
            exact ih _ ⟨i + 1, A, by simp, by omega, hA⟩ (by simp only; omega)
        · have h00 : i = c.ps.length := by omega
          have c1 : ¬ (i : Int) < ((ptL c.ps).length : Int) := by rw [List.length_map]; omega
          rw [h00, List.drop_length] at hA
          have hA : A = openFrom c.r t 0 c.ps := by simpa [openFrom] using hA
          rw [decide_eq_false c1, cond_false, hA]
      · rw [if_neg (fun h => h1 h.2.2), decide_eq_true h0, cond_true, decide_eq_false h1, Bool.not_false, cond_true]
    · rw [if_neg (fun h => h0 h.2.1), decide_eq_false h0, cond_false]
  · rw [if_neg (fun hh => h hh.1), decide_eq_false h, Bool.not_false, cond_true]
end
end Go.Proofs.Ytjllgiddmeiaoaa
