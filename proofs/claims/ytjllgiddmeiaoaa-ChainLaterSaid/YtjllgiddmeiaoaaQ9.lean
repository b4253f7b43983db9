/-
  What the plain functions of claims give: the program's.
-/
import Derived.Test.YtjllgiddmeiaoaaQ8
set_option linter.unusedVariables false
set_option linter.unusedSimpArgs false
set_option maxRecDepth 100000
namespace Go.Proofs.Ytjllgiddmeiaoaa
open Go Go.Sx Go.Dial.Clm
theorem claim_isClaim_v (n : Nat) (c : Cl) : claim_isClaim n c.n c.f c.t c.h c.a c.b = some (decide (ClV c)) := by
  by_cases h : ClV c <;> simp only [h, decide_true, decide_false] <;> unfold ClV at h <;> unfold claim_isClaim claim_isClaim_1 <;> grind
/-- the rule of an index, as the program lists them -/
def ruleAt (r : Rl) (i : Nat) : Int := if i = 0 then r.a else if i = 1 then r.s else if i = 2 then r.c else r.r
theorem rule_cell (r : Rl) {i : Nat} (h : i < 4) : cI ((((([] : Lv) ++ [[(AV.int r.a)]]) ++ [[(AV.int r.s)]]) ++ [[(AV.int r.c)]]) ++ [[(AV.int r.r)]]) (i : Int) 0 = ruleAt r i := by
  match i, h with
  | 0, _ => rfl
  | 1, _ => rfl
  | 2, _ => rfl
  | 3, _ => rfl
theorem rules_all {r : Rl} : RlV r ↔ ∀ i, i < 4 → 1 ≤ ruleAt r i ∧ ruleAt r i ≤ 1000000 := by
  constructor
  · intro h i hi
    unfold RlV at h
    unfold ruleAt
    split; omega; split; omega; split <;> omega
  · intro h
    have h0 := h 0 (by omega)
    have h1 := h 1 (by omega)
    have h2 := h 2 (by omega)
    have h3 := h 3 (by omega)
    simp [ruleAt] at h0 h1 h2 h3
    unfold RlV
    omega
theorem claim_Ends_v (n : Nat) (r : Rl) (c : Cl) (hn : 10 < n) : claim_Ends n r.a r.c r.s r.r c.n c.f c.t c.h c.a c.b = some (if RlV r ∧ ClV c then (endsV r c, 0) else (0, 160)) := by
  unfold claim_Ends claim_Ends_1
  refine iterF_ind (fun s => ∃ i : Nat, s = (i : Int) ∧ i ≤ 4 ∧ ∀ j, j < i → 1 ≤ ruleAt r j ∧ ruleAt r j ≤ 1000000) (fun s => 4 - s.toNat) _ ?_ n _ ⟨0, rfl, by omega, fun j hj => by omega⟩ (by simp; omega)
  rintro _ go ⟨i, rfl, hi, hj⟩ ih
  unfold claim_Ends_2
  have c2 : (0 : Int) ≤ (i : Int) := by omega
  have c8 : (-9223372036854775808 : Int) ≤ (i : Int) + 1 := by omega
  have c9 : (i : Int) + 1 ≤ (9223372036854775807 : Int) := by omega
  by_cases h4 : i < 4
  · have c1 : (i : Int) < 4 := by omega
    simp only [c1, c2, c8, c9, rule_cell r h4, decide_true, Bool.and_self]
    simp only [cond_true]
    by_cases k1 : 1 ≤ ruleAt r i
    · by_cases k2 : ruleAt r i ≤ 1000000
      · simp only [k1, k2, decide_true, Bool.not_true]
        simp only [cond_true, cond_false]
        exact ih _ ⟨i + 1, by simp, by omega, fun j hj' => by
          rcases Nat.lt_or_ge j i with h | h
          · exact hj j h
          · have : j = i := by omega
            subst this; exact ⟨k1, k2⟩⟩ (by simp; omega)
      · have : ¬ (RlV r ∧ ClV c) := fun h => k2 (rules_all.1 h.1 i h4).2
        simp [k1, k2, this]
    · have : ¬ (RlV r ∧ ClV c) := fun h => k1 (rules_all.1 h.1 i h4).1
      simp [k1, this]
  · have hr : RlV r := rules_all.2 fun j hj' => hj j (by omega)
    have c1 : ¬ (i : Int) < 4 := by omega
    rw [claim_isClaim_v]
    by_cases hc : ClV c
    · simp only [c1, hr, hc, decide_true, decide_false, Option.bind_some, Bool.not_true, and_self, if_true]
      simp only [cond_false]
      unfold endsV
      unfold RlV at hr
      unfold ClV at hc
      have n1 : (-9223372036854775808 : Int) ≤ c.a + r.a ∧ c.a + r.a ≤ 9223372036854775807 := by omega
      have n2 : (-9223372036854775808 : Int) ≤ c.a + r.a - 1 ∧ c.a + r.a - 1 ≤ 9223372036854775807 := by omega
      have n3 : (-9223372036854775808 : Int) ≤ c.a + r.a - 1 + r.s ∧ c.a + r.a - 1 + r.s ≤ 9223372036854775807 := by omega
      have n4 : (-9223372036854775808 : Int) ≤ c.a + r.a - 1 + r.s + r.c ∧ c.a + r.a - 1 + r.s + r.c ≤ 9223372036854775807 := by omega
      have n5 : (-9223372036854775808 : Int) ≤ c.a + r.a - 1 + r.s + r.c + r.r ∧ c.a + r.a - 1 + r.s + r.c + r.r ≤ 9223372036854775807 := by omega
      simp only [n1, n2, n3, n4, n5, decide_true, Bool.and_self]
      simp only [cond_true]
    · simp [c1, hc]
theorem claim_Valid_v (n : Nat) (r : Rl) (c : Cl) (es : List Ce) (hn : 25 < n) : claim_Valid n r.a r.c r.s r.r c.n c.f c.t c.h c.a c.b (ceL es) = some (decide (ClmV r c es)) := by
  unfold claim_Valid claim_Valid_1
  refine iterF_ind (fun s => ∃ i : Nat, s = (i : Int) ∧ i ≤ 4 ∧ ∀ j, j < i → 1 ≤ ruleAt r j ∧ ruleAt r j ≤ 1000000) (fun s => 4 - s.toNat) _ ?_ n _ ⟨0, rfl, by omega, fun j hj => by omega⟩ (by simp; omega)
  rintro _ go ⟨i, rfl, hi, hj⟩ ih
  unfold claim_Valid_2
  have c2 : (0 : Int) ≤ (i : Int) := by omega
  have c8 : (-9223372036854775808 : Int) ≤ (i : Int) + 1 := by omega
  have c9 : (i : Int) + 1 ≤ (9223372036854775807 : Int) := by omega
  by_cases h4 : i < 4
  · have c1 : (i : Int) < 4 := by omega
    simp only [c1, c2, c8, c9, rule_cell r h4, decide_true, Bool.and_self]
    simp only [cond_true]
    by_cases k1 : 1 ≤ ruleAt r i
    · by_cases k2 : ruleAt r i ≤ 1000000
      · simp only [k1, k2, decide_true, Bool.not_true]
        simp only [cond_true, cond_false]
        exact ih _ ⟨i + 1, by simp, by omega, fun j hj' => by
          rcases Nat.lt_or_ge j i with h | h
          · exact hj j h
          · have : j = i := by omega
            subst this; exact ⟨k1, k2⟩⟩ (by simp; omega)
      · have : ¬ ClmV r c es := fun h => k2 (rules_all.1 h.1 i h4).2
        simp [k1, k2, this]
    · have : ¬ ClmV r c es := fun h => k1 (rules_all.1 h.1 i h4).1
      simp [k1, this]
  · have hr : RlV r := rules_all.2 fun j hj' => hj j (by omega)
    have c1 : ¬ (i : Int) < 4 := by omega
    clear ih
    rw [claim_isClaim_v]
    unfold ClmV
    by_cases h2 : ClV c
    · by_cases h3 : es.length ≤ 20
      · have c3 : ¬ (20 : Int) < (es.length : Int) := by omega
        simp only [c1, hr, h2, h3, decide_true, decide_false, Option.bind_some, Bool.not_true, List.length_map, c3, true_and]
        simp only [cond_false]
        refine iterF_ind (fun s => ∃ (i : Nat) (last : Int), s = ((i : Int), last) ∧ i ≤ es.length ∧ (EvV c.a es ↔ EvV last (es.drop i))) (fun s => es.length - s.1.toNat) _ ?_ n _ ⟨0, c.a, rfl, by omega, by simp⟩ (by simp; omega)
        rintro _ go ⟨i, last, rfl, hi, hE⟩ ih
        simp only
        unfold claim_Valid_3
        by_cases hlt : i < es.length
        · obtain ⟨e, he⟩ := get_lt hlt
          have hc : ∀ k, cA (ceL es) (i : Int) k = (ceR e).getD k (.int 0) := fun k => cA_map (by simpa using he)
          have g0 : cI (ceL es) i 0 = e.k := by simp only [cI, hc]; rfl
          have g1 : cI (ceL es) i 1 = e.a := by simp only [cI, hc]; rfl
          have g2 : cI (ceL es) i 2 = e.r := by simp only [cI, hc]; rfl
          have c1 : (i : Int) < (es.length : Int) := by omega
          have c2 : (0 : Int) ≤ (i : Int) := by omega
          have c4 : (-9223372036854775808 : Int) ≤ (i : Int) + 1 := by omega
          have c5 : (i : Int) + 1 ≤ (9223372036854775807 : Int) := by omega
          simp only [g0, g1, g2, List.length_map, c1, c2, c4, c5, decide_true, Bool.and_self, Bool.not_true]
          simp only [cond_true]
          rw [drop_cons he] at hE
          have hgo : CeV last e → go ((i : Int) + 1, e.a) = some (decide (EvV c.a es)) := fun hv => ih _ ⟨i + 1, e.a, by simp, by omega, by rw [hE]; exact ⟨fun h => h.2, fun h => ⟨hv, h⟩⟩⟩ (by simp only; omega)
          by_cases hv : CeV last e
          · rw [hgo hv]
            unfold CeV at hv
            grind
          · have : ¬ EvV c.a es := fun h => hv (hE.1 h).1
            simp only [this, decide_false]
            unfold CeV at hv
            grind
        · have h0 : i = es.length := by omega
          have c1 : ¬ (i : Int) < (es.length : Int) := by omega
          simp only [List.length_map, c1, decide_false]
          simp only [cond_false]
          subst h0
          rw [List.drop_length] at hE
          have : EvV c.a es := hE.2 trivial
          simp [this]
      · have c3 : (20 : Int) < (es.length : Int) := by omega
        simp only [c1, h2, h3, decide_true, decide_false, Option.bind_some, Bool.not_true, List.length_map, c3, false_and, and_false]
        simp only [cond_true, cond_false]
    · simp [c1, h2]
end Go.Proofs.Ytjllgiddmeiaoaa
