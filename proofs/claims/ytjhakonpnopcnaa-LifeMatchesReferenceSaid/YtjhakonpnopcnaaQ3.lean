/-
  What the plain functions of lives give: picks, the line at a time, drawn lives.
-/
import Derived.Test.YtjhakonpnopcnaaQ2
set_option linter.unusedVariables false
set_option linter.unusedSimpArgs false
set_option maxRecDepth 100000
namespace Go.Proofs.Ytjhakonpnopcnaa
open Go Go.Sx Go.Dial.Lif
def In64 (n : Int) : Prop := -9223372036854775808 ≤ n ∧ n ≤ 9223372036854775807
def pk (c k : Int) : Int := if c < 0 then Int.tmod (0 - (c + 1)) k else Int.tmod c k
theorem tmod_bd {a k : Int} (ha : 0 ≤ a) (hk : 0 < k) : 0 ≤ Int.tmod a k ∧ Int.tmod a k < k := ⟨Int.tmod_nonneg _ ha, Int.tmod_lt_of_pos _ hk⟩
theorem pk_bd (c : Int) {k : Int} (hk : 0 < k) : 0 ≤ pk c k ∧ pk c k < k := by
  unfold pk
  split
  · exact tmod_bd (by omega) hk
  · exact tmod_bd (by omega) hk
theorem ref14_pick_v (n : Nat) {c k : Int} (hc : In64 c) (hk : 0 < k) : ref14_pick n c k = some (pk c k) := by
  unfold ref14_pick ref14_pick_1 pk
  unfold In64 at hc
  grind
theorem fin_upto {es : List Ev} {t : Int} {i : Nat} {e : Ev} (he : es[i]? = some e) (hi : i ≤ upto es t) : (i < upto es t ↔ e.a ≤ t) := by
  have hlt := (List.getElem?_eq_some_iff.1 he)
  obtain ⟨hl, rfl⟩ := hlt
  constructor
  · intro h; exact upto_lt h
  · intro h
    rcases Nat.lt_or_ge i (upto es t) with h1 | h1
    · exact h1
    · have : i = upto es t := by omega
      subst this
      have := upto_at hl
      omega
theorem ref14_at_v (n : Nat) (es : List Ev) (t : Int) (hL : Life es) (hn : es.length < n) : ref14_at n (evL es) t = some ((atL es t).s, (atL es t).h, (atL es t).e, (atL es t).t) := by
  unfold ref14_at ref14_at_1
  refine iterF_ind (fun s => ∃ (i : Nat) (l : Ln), s = ((i : Int), l.s, l.h, l.e, l.t) ∧ i ≤ upto es t ∧ l = fin first (es.take i)) (fun s => es.length - s.1.toNat) _ ?_ n _ ⟨0, first, rfl, by omega, rfl⟩ (by simp; omega)
  rintro _ go ⟨i, l, rfl, hi, hl⟩ ih
  simp only
  unfold ref14_at_2
  have hle := upto_le es t
  have h40 := hL.2
  have c2 : (0 : Int) ≤ (i : Int) := by omega
  have c4 : (-9223372036854775808 : Int) ≤ (i : Int) + 1 := by omega
  have c5 : (i : Int) + 1 ≤ (9223372036854775807 : Int) := by omega
  by_cases hlt : i < es.length
  · obtain ⟨e, he⟩ := get_lt hlt
    have hc : ∀ k, cA (evL es) (i : Int) k = (evR e).getD k (.int 0) := fun k => cA_map (by simpa using he)
    have h0 : cI (evL es) i 0 = e.k := by simp only [cI, hc]; rfl
    have h1 : cI (evL es) i 1 = e.a := by simp only [cI, hc]; rfl
    have h2 : cI (evL es) i 2 = e.h := by simp only [cI, hc]; rfl
    have c1 : (i : Int) < (es.length : Int) := by omega
    simp only [h0, h1, h2, ref14_Step_v n l e, List.length_map, Option.bind_some, c1, c2, c4, c5, decide_true, cond_true, Bool.and_self, stepT]
    have hu := fin_upto he hi
    by_cases ht : e.a ≤ t
    · have hok : Ok l e := by
        have := (all_take hL.1 (i + 1))
        rw [take_snoc he, all_app, ← hl] at this
        exact this.2.1
      simp only [ht, decide_true, cond_true, stepR_ok hok]
      exact ih _ ⟨i + 1, nxt l e, rfl, by have := hu.2 ht; omega, by rw [take_snoc he, fin_app, ← hl]; rfl⟩ (by simp only; omega)
    · simp only [ht, decide_false, cond_false]
      have : i = upto es t := by
        have : ¬ i < upto es t := fun h => ht (hu.1 h)
        omega
      unfold atL
      rw [← this, ← hl]
  · have h0 : i = es.length := by omega
    have c1 : ¬ (i : Int) < (es.length : Int) := by omega
    simp only [List.length_map, c1, decide_false, cond_false]
    have : i = upto es t := by omega
    unfold atL
    rw [← this, ← hl]
theorem ref14_Is_v (n : Nat) (es : List Ev) (hn : es.length < n) : ref14_Is n (evL es) = some (decide (Life es)) := by
  unfold ref14_Is ref14_Is_1
  rw [ref14_Run_v n es hn]
  simp only [Option.bind_some, runT]
  by_cases h : Life es
  · rw [runR_life h]; simp [h]
  · rw [runR_no h]; simp [h]
abbrev atT (es : List Ev) (t : Int) : Int × Int × Int × Int × Int := ((atR es t).1.s, (atR es t).1.h, (atR es t).1.e, (atR es t).1.t, (atR es t).2)
theorem ref14_At_v (n : Nat) (es : List Ev) (t : Int) (hn : es.length < n) : ref14_At n (evL es) t = some (atT es t) := by
  unfold ref14_At ref14_At_1 atT atR OkAt
  rw [ref14_Is_v n es hn]
  by_cases h : Life es
  · rw [ref14_at_v n es t h hn]
    simp only [h, decide_true, Option.bind_some, Bool.not_true, cond_false, true_and]
    unfold zero
    grind
  · simp [h, zero]
/-- half of a sum, as the search reckons it -/
theorem half {a b : Int} (ha : 0 ≤ a) (hb : 0 ≤ b) (h : a + b ≤ 9223372036854775807) : IntKind.wrap .i64 (kopf .shr .u64 (IntKind.wrap .u64 (a + b)) 1) = (a + b) / 2 := by
  have h1 : IntKind.wrap .u64 (a + b) = a + b := by
    unfold IntKind.wrap
    simp only [IntKind.bits, IntKind.signed, Bool.false_and]
    simp
    omega
  rw [h1]
  have h2 : kopf .shr .u64 (a + b) 1 = (a + b) / 2 := by
    unfold kopf
    simp only [IntKind.bits]
    rw [Int.fdiv_eq_ediv_of_nonneg _ (by decide)]
    rfl
  rw [h2]
  unfold IntKind.wrap
  simp only [IntKind.bits, IntKind.signed, Bool.true_and]
  have h3 : (a + b) / 2 % 2 ^ 64 = (a + b) / 2 := Int.emod_eq_of_lt (by omega) (by omega)
  simp only [h3]
  rw [if_neg (by simp; omega)]
end Go.Proofs.Ytjhakonpnopcnaa
