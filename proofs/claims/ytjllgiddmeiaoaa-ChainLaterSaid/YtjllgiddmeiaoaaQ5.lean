/-
  What the plain functions of claims give: the reference's.
-/
import Derived.Test.YtjllgiddmeiaoaaD2
import Derived.Test.YtjllgiddmeiaoaaClmM
import Derived.Test.YtjllgiddmeiaoaaQ3
set_option linter.unusedVariables false
set_option linter.unusedSimpArgs false
set_option maxRecDepth 100000
namespace Go.Proofs.Ytjllgiddmeiaoaa
open Go Go.Sx Go.Dial.Clm
abbrev ceR (e : Ce) : List AV := [.int e.k, .int e.a, .int e.r]
abbrev ceL (es : List Ce) : Lv := es.map ceR
abbrev csR (x : Cs) : List AV := [.int x.s, .int x.f, .int x.n]
abbrev csL (l : List Cs) : Lv := l.map csR
theorem ref16_pick_v (n : Nat) {c k : Int} (hc : In64 c) (hk : 0 < k) : ref16_pick n c k = some (pk c k) := by
  unfold ref16_pick ref16_pick_1 pk
  unfold In64 at hc
  grind
theorem ref16_Rules_v (n : Nat) (r : Rl) : ref16_Rules n r.a r.c r.s r.r = some (decide (RlV r)) := by
  by_cases h : RlV r <;> simp only [h, decide_true, decide_false] <;> unfold RlV at h <;> unfold ref16_Rules ref16_Rules_1 <;> grind
theorem ref16_Claim_v (n : Nat) (c : Cl) : ref16_Claim n c.n c.f c.t c.h c.a c.b = some (decide (ClV c)) := by
  by_cases h : ClV c <;> simp only [h, decide_true, decide_false] <;> unfold ClV at h <;> unfold ref16_Claim ref16_Claim_1 <;> grind
theorem drop_cons {α : Type} {l : List α} {i : Nat} {x : α} (h : l[i]? = some x) : l.drop i = x :: l.drop (i + 1) := by
  obtain ⟨hl, rfl⟩ := List.getElem?_eq_some_iff.1 h
  exact List.drop_eq_getElem_cons hl
theorem ref16_Valid_v (n : Nat) (r : Rl) (c : Cl) (es : List Ce) (hn : 25 < n) : ref16_Valid n r.a r.c r.s r.r c.n c.f c.t c.h c.a c.b (ceL es) = some (decide (ClmV r c es)) := by
  unfold ref16_Valid ref16_Valid_1 ClmV
  rw [ref16_Rules_v, ref16_Claim_v]
  by_cases h1 : RlV r
  · by_cases h2 : ClV c
    · by_cases h3 : es.length ≤ 20
      · have c3 : ¬ (20 : Int) < (es.length : Int) := by omega
        simp only [h1, h2, h3, decide_true, Option.bind_some, Bool.not_true, cond_false, List.length_map, c3, decide_false, true_and]
        refine iterF_ind (fun s => ∃ (i : Nat) (last : Int), s = (last, (i : Int)) ∧ i ≤ es.length ∧ (EvV c.a es ↔ EvV last (es.drop i))) (fun s => es.length - s.2.toNat) _ ?_ n _ ⟨0, c.a, rfl, by omega, by simp⟩ (by simp; omega)
        rintro _ go ⟨i, last, rfl, hi, hE⟩ ih
        simp only
        unfold ref16_Valid_2
        by_cases hlt : i < es.length
        · obtain ⟨e, he⟩ := get_lt hlt
          have hc : ∀ k, cA (ceL es) (i : Int) k = (ceR e).getD k (.int 0) := fun k => cA_map (by simpa using he)
          have g0 : cI (ceL es) i 0 = e.k := by simp only [cI, hc]; rfl
          have g1 : cI (ceL es) i 1 = e.a := by simp only [cI, hc]; rfl
          have g2 : cI (ceL es) i 2 = e.r := by simp only [cI, hc]; rfl
          have c1 : (i : Int) < (es.length : Int) := by omega
          have c2 : (0 : Int) ≤ (i : Int) := by omega
          have c4 : (-9223372036854775808 : Int) ≤ (i : Int) + 1 := by omega
          have c5 : (i : Int) + 1 ≤ (9223372036854775807 : Int) := by omega
          simp only [g0, g1, g2, List.length_map, c1, c2, c4, c5, decide_true, cond_true, Bool.and_self]
          rw [drop_cons he] at hE
          have hgo : CeV last e → go (e.a, (i : Int) + 1) = some (decide (EvV c.a es)) := fun hv => ih _ ⟨i + 1, e.a, by simp, by omega, by rw [hE]; exact ⟨fun h => h.2, fun h => ⟨hv, h⟩⟩⟩ (by simp only; omega)
          by_cases hv : CeV last e
          · rw [hgo hv]
            unfold CeV at hv
            grind
          · have : ¬ EvV c.a es := fun h => hv (hE.1 h).1
            simp only [this, decide_false]
            unfold CeV at hv
            grind
        · have h0 : i = es.length := by omega
          have c1 : ¬ (i : Int) < (es.length : Int) := by omega
          simp only [List.length_map, c1, decide_false, cond_false]
          subst h0
          rw [List.drop_length] at hE
          have : EvV c.a es := hE.2 trivial
          simp [this]
      · have c3 : (20 : Int) < (es.length : Int) := by omega
        simp only [h1, h2, h3, decide_true, Option.bind_some, Bool.not_true, cond_false, List.length_map, c3, cond_true, true_and, false_and, decide_false]
    · simp [h1, h2]
  · simp [h1]
abbrev stT (x : Cs) : Int × Int × Int := (x.s, x.f, x.n)
theorem ref16_status_v (n : Nat) (r : Rl) (hr : RlV r) (s f : Int) (h1 : 0 ≤ f) (h2 : f ≤ 100000000) : ref16_status n r.a r.c r.s r.r s f = some (stT (st r s f)) := by
  unfold ref16_status ref16_status_1 stT st dur
  unfold RlV at hr
  grind
theorem ref16_after_v (n : Nat) (s : Int) : ref16_after n s = some (aft s) := by
  unfold ref16_after ref16_after_1 aft
  grind
theorem ref16_becomes_v (n : Nat) (c : Cl) (s : Int) (e : Ce) : ref16_becomes n c.n c.f c.t c.h c.a c.b s e.k e.a e.r = some (bec c.b s e) := by
  unfold ref16_becomes ref16_becomes_1 bec
  grind
end Go.Proofs.Ytjllgiddmeiaoaa
