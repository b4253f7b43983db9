/-
  What the plain functions of chains give: validity.
-/
import Derived.Test.YtjllgiddmeiaoaaQ11
import Derived.Test.YtjllgiddmeiaoaaD4
import Derived.Test.YtjllgiddmeiaoaaChnM
set_option linter.unusedVariables false
set_option linter.unusedSimpArgs false
set_option maxRecDepth 100000
namespace Go.Proofs.Ytjllgiddmeiaoaa
open Go Go.Sx Go.Dial.Clm Go.Dial.Lif Go.Dial.Chn
abbrev ptR (p : Pt) : List AV := [.int p.c.n, .int p.c.f, .int p.c.t, .int p.c.h, .int p.c.a, .bool p.c.b, .sl (.cons .int (.cons .int (.cons .int .nil))) (ceL p.es)]
abbrev ptL (ps : List Pt) : Lv := ps.map ptR
theorem chain_Valid_v (n : Nat) (c : Ch) (hl : c.life.length < n) (hn : 200 < n) : chain_Valid n c.n c.f c.r.a c.r.c c.r.s c.r.r (evL c.life) (ptL c.ps) = some (decide (ChV c)) := by
  unfold chain_Valid chain_Valid_1 ChV
  rw [life_Run_v n c.life hl]
  simp only [Option.bind_some, runT]
  by_cases h0 : Life c.life
  · rw [runR_life h0]
    by_cases h1 : 0 ≤ c.n ∧ c.n ≤ 99999999 ∧ 0 ≤ c.f ∧ c.f ≤ 7
    · by_cases h2 : c.ps.length ≤ 8
      · have c3 : ¬ (8 : Int) < ((ptL c.ps).length : Int) := by rw [List.length_map]; omega
        simp only [h0, h1, h2, decide_true, Bool.not_true, true_and]
        simp only [cond_true, cond_false]
        rw [decide_eq_false c3, cond_false]
        refine iterF_ind (fun s => ∃ (i : Nat) (last : Int), s = (last, (i : Int)) ∧ i ≤ c.ps.length ∧ (PtsV c.n c.r 0 c.ps ↔ PtsV c.n c.r last (c.ps.drop i))) (fun s => c.ps.length - s.2.toNat) _ ?_ n _ ⟨0, 0, rfl, by omega, by simp⟩ (by simp; omega)
        rintro _ go ⟨i, last, rfl, hi, hE⟩ ih
        simp only
        unfold chain_Valid_2
        by_cases hlt : i < c.ps.length
        · obtain ⟨p, hp⟩ := get_lt hlt
          have hc : ∀ k, cA (ptL c.ps) (i : Int) k = (ptR p).getD k (.int 0) := fun k => cA_map (by simpa using hp)
          have g0 : cI (ptL c.ps) i 0 = p.c.n := by simp only [cI, hc]; rfl
          have g1 : cI (ptL c.ps) i 1 = p.c.f := by simp only [cI, hc]; rfl
          have g2 : cI (ptL c.ps) i 2 = p.c.t := by simp only [cI, hc]; rfl
          have g3 : cI (ptL c.ps) i 3 = p.c.h := by simp only [cI, hc]; rfl
          have g4 : cI (ptL c.ps) i 4 = p.c.a := by simp only [cI, hc]; rfl
          have g5 : cB (ptL c.ps) i 5 = p.c.b := by simp only [cB, hc]; rfl
          have g6 : cL (ptL c.ps) i 6 = ceL p.es := by simp only [cL, hc]; rfl
          have c1 : (i : Int) < ((ptL c.ps).length : Int) := by rw [List.length_map]; omega
          have c2 : (0 : Int) ≤ (i : Int) := by omega
          have c4 : (-9223372036854775808 : Int) ≤ (i : Int) + 1 := by omega
          have c5 : (i : Int) + 1 ≤ (9223372036854775807 : Int) := by omega
          rw [drop_cons hp] at hE
          simp only [g0, g1, g2, g3, g4, g5, g6, claim_Valid_v n c.r p.c p.es (by omega), c1, c2, c4, c5, decide_true, Bool.and_self, Option.bind_some]
          simp only [cond_true]
          by_cases k1 : p.c.n = c.n
          · by_cases k2 : ClmV c.r p.c p.es
            · by_cases k3 : p.c.a < last
              · have : ¬ PtsV c.n c.r 0 c.ps := fun h => by have := (hE.1 h).1.2.2; omega
                simp [k1, k2, k3, this]
              · have hgo := ih _ ⟨i + 1, p.c.a, rfl, by omega, by rw [hE]; exact ⟨fun h => h.2, fun h => ⟨⟨k1, k2, by omega⟩, h⟩⟩⟩ (by simp only; omega)
                rw [← hgo]
                simp [k1, k2, k3]
            · have : ¬ PtsV c.n c.r 0 c.ps := fun h => k2 (hE.1 h).1.2.1
              simp [k1, k2, this]
          · have : ¬ PtsV c.n c.r 0 c.ps := fun h => k1 (hE.1 h).1.1
            simp [k1, this]
        · have h00 : i = c.ps.length := by omega
          have c1 : ¬ (i : Int) < ((ptL c.ps).length : Int) := by rw [List.length_map]; omega
          rw [decide_eq_false c1, cond_false]
          subst h00
          rw [List.drop_length] at hE
          have : PtsV c.n c.r 0 c.ps := hE.2 trivial
          simp [this]
      · have c3 : (8 : Int) < ((ptL c.ps).length : Int) := by rw [List.length_map]; omega
        simp only [h0, h1, h2, c3, decide_true, Bool.not_true, false_and, and_false, decide_false]
        simp only [cond_true, cond_false]
    · have : ¬ (Life c.life ∧ 0 ≤ c.n ∧ c.n ≤ 99999999 ∧ 0 ≤ c.f ∧ c.f ≤ 7 ∧ c.ps.length ≤ 8 ∧ PtsV c.n c.r 0 c.ps) := fun h => h1 ⟨h.2.1, h.2.2.1, h.2.2.2.1, h.2.2.2.2.1⟩
      simp only [this, decide_false]
      grind
  · rw [runR_no h0]
    simp [h0]
end Go.Proofs.Ytjllgiddmeiaoaa
