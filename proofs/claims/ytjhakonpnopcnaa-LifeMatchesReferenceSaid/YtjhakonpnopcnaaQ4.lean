/-
  What the plain functions of lives give: the search for a time; drawn lives.
-/
import Derived.Test.YtjhakonpnopcnaaQ3
set_option linter.unusedVariables false
set_option linter.unusedSimpArgs false
set_option maxRecDepth 100000
namespace Go.Proofs.Ytjhakonpnopcnaa
open Go Go.Sx Go.Dial.Lif
theorem upto_sorted {es : List Ev} (h : All first es) {t : Int} {i : Nat} {e : Ev} (he : es[i]? = some e) : i < upto es t ↔ e.a ≤ t := by
  obtain ⟨hl, rfl⟩ := List.getElem?_eq_some_iff.1 he
  constructor
  · intro h; exact upto_lt h
  · intro ht
    rcases Nat.lt_or_ge i (upto es t) with h1 | h1
    · exact h1
    · have h2 := upto_at (es := es) (t := t) (by omega)
      have h3 := all_sorted h h1 hl
      omega
theorem life_at_v (n : Nat) (es : List Ev) (t : Int) (hn : es.length < n) : life_at n (evL es) t = some (if OkAt es t then ((atL es t).s, (atL es t).h, (atL es t).e, (atL es t).t, true) else (0, 0, 0, 0, false)) := by
  unfold life_at life_at_1
  rw [life_Run_v n es hn]
  simp only [Option.bind_some, runT]
  by_cases hL : Life es
  · by_cases ht : 0 ≤ t ∧ t ≤ 10000000
    · have hA : OkAt es t := ⟨hL, ht⟩
      simp only [runR_life hL, hA, ht.1, ht.2, decide_true, Bool.not_true, cond_false, cond_true, if_true]
      have hle := upto_le es t
      have h40 := hL.2
      refine iterF_ind (fun s => ∃ i j : Nat, s = ((i : Int), (j : Int)) ∧ i ≤ upto es t ∧ upto es t ≤ j ∧ j ≤ es.length) (fun s => (s.2 - s.1).toNat) _ ?_ n _ ⟨0, es.length, by simp, by omega, by omega, by omega⟩ (by simp; omega)
      rintro _ go ⟨i, j, rfl, h1, h2, h3⟩ ih
      simp only
      unfold life_at_2
      by_cases hij : i < j
      · have c1 : (i : Int) < (j : Int) := by omega
        have c2 : (-9223372036854775808 : Int) ≤ (i : Int) + j := by omega
        have c3 : (i : Int) + j ≤ (9223372036854775807 : Int) := by omega
        obtain ⟨k, hk⟩ : ∃ k, k = (i + j) / 2 := ⟨_, rfl⟩
        have hh : IntKind.wrap .i64 (kopf .shr .u64 (IntKind.wrap .u64 ((i : Int) + j)) 1) = (k : Int) := by
          rw [half (by omega) (by omega) (by omega)]; omega
        have c4 : (0 : Int) ≤ (k : Int) := by omega
        have c5 : (k : Int) < (es.length : Int) := by omega
        have c6 : (-9223372036854775808 : Int) ≤ (k : Int) + 1 := by omega
        have c7 : (k : Int) + 1 ≤ (9223372036854775807 : Int) := by omega
        have c8 : (0 : Int) ≤ 1 := by omega
        obtain ⟨e, he⟩ := get_lt (show k < es.length by omega)
        have hc : cI (evL es) k 1 = e.a := by simp only [cI]; rw [cA_map (by simpa using he)]; rfl
        have hu := upto_sorted hL.1 (t := t) he
        simp only [c1, c2, c3, hh, c4, c5, c6, c7, c8, hc, List.length_map, decide_true, cond_true, Bool.and_self]
        by_cases hlt : t < e.a
        · simp only [hlt, decide_true, Bool.not_true, cond_false]
          refine ih _ ⟨i, k, rfl, h1, ?_, by omega⟩ (by simp only; omega)
          have : ¬ k < upto es t := fun h => by have := hu.1 h; omega
          omega
        · simp only [hlt, decide_false, Bool.not_false, cond_true]
          refine ih _ ⟨k + 1, j, rfl, ?_, h2, h3⟩ (by simp only; omega)
          have := hu.2 (by omega)
          omega
      · have c1 : ¬ (i : Int) < (j : Int) := by omega
        have c2 : (0 : Int) ≤ (i : Int) := by omega
        have c3 : (i : Int) ≤ (es.length : Int) := by omega
        have hi : i = upto es t := by omega
        have hT : List.take (i : Int).toNat (evL es) = evL (es.take i) := by
          rw [← List.map_take]; rfl
        simp only [c1, c2, c3, List.length_map, decide_true, decide_false, cond_true, cond_false, hT]
        rw [life_Run_v n (es.take i) (by simp; omega)]
        simp only [Option.bind_some, runT, runR_life (life_take hL i)]
        unfold atL
        rw [← hi]
    · have hA : ¬ OkAt es t := fun h => ht h.2
      simp only [runR_life hL, hA, decide_true, Bool.not_true, cond_false, if_false]
      grind
  · have hA : ¬ OkAt es t := fun h => hL h.1
    simp [runR_no hL, hA]
theorem life_At_v (n : Nat) (es : List Ev) (t : Int) (hn : es.length < n) : life_At n (evL es) t = some (atT es t) := by
  unfold life_At life_At_1
  rw [life_at_v n es t hn]
  unfold atT atR
  by_cases h : OkAt es t <;> simp [h, zero]
/-- an event is drawn -/
theorem ref14_After_v (n : Nat) (l : Ln) (x : Int × Int × Int) (hl : Vld l) (h1 : In64 x.1) (h2 : In64 x.2.1) (h3 : In64 x.2.2) : ∃ e : Ev, ref14_After n l.s l.h l.e l.t x.1 x.2.1 x.2.2 = some (e.k, e.a, e.h) := by
  obtain ⟨s, g, p, t⟩ := l
  obtain ⟨x, y, z⟩ := x
  unfold Vld at hl
  simp only at hl h1 h2 h3 ⊢
  have q5 := pk_bd x (k := 5) (by decide)
  have q3 := pk_bd x (k := 3) (by decide)
  have q2 := pk_bd x (k := 2) (by decide)
  have q1 := pk_bd x (k := 1) (by decide)
  have r6 := pk_bd y (k := 6) (by decide)
  have w5 := pk_bd z (k := 5) (by decide)
  have key : ∃ w : Int × Int × Int, ref14_After n s g p t x y z = some w := by
    unfold ref14_After ref14_After_1 ref14_After_2
    simp only [ref14_pick_v n h1 (show (0 : Int) < 5 by decide), ref14_pick_v n h1 (show (0 : Int) < 3 by decide), ref14_pick_v n h1 (show (0 : Int) < 2 by decide), ref14_pick_v n h1 (show (0 : Int) < 1 by decide),
      ref14_pick_v n h2 (show (0 : Int) < 6 by decide), ref14_pick_v n h3 (show (0 : Int) < 5 by decide), Option.bind_some]
    generalize pk x 5 = a5 at *
    generalize pk x 3 = a3 at *
    generalize pk x 2 = a2 at *
    generalize pk x 1 = a1 at *
    generalize pk y 6 = b at *
    generalize pk z 5 = c at *
    have n1 : (-9223372036854775808 : Int) ≤ b + 2592000 := by omega
    have n2 : b + 2592000 ≤ (9223372036854775807 : Int) := by omega
    have n3 : (-9223372036854775808 : Int) ≤ t + (b + 2592000) := by omega
    have n4 : t + (b + 2592000) ≤ (9223372036854775807 : Int) := by omega
    have n5 : (-9223372036854775808 : Int) ≤ t + b := by omega
    have n6 : t + b ≤ (9223372036854775807 : Int) := by omega
    have n7 : (-9223372036854775808 : Int) ≤ c + 1 := by omega
    have n8 : c + 1 ≤ (9223372036854775807 : Int) := by omega
    simp only [q5, q3, q2, q1, n1, n2, n3, n4, n5, n6, n7, n8, decide_true, Bool.and_self, cond_true]
    cases decide (s = 1) <;> cases decide (s = 2) <;> cases decide (s = 3) <;> simp only [cond_true, cond_false] <;> (repeat' (split <;> try exact ⟨_, rfl⟩)) <;> first | exact ⟨_, rfl⟩ | (simp only [Bool.cond_eq_ite]; repeat' (split <;> try exact ⟨_, rfl⟩))
  obtain ⟨w, hw⟩ := key
  exact ⟨⟨w.1, w.2.1, w.2.2⟩, hw⟩
abbrev triR (x : Int × Int × Int) : List AV := [.int x.1, .int x.2.1, .int x.2.2]
/-- a life is drawn -/
theorem ref14_Made_v (n : Nat) (xs : List (Int × Int × Int)) (hx : ∀ x ∈ xs, In64 x.1 ∧ In64 x.2.1 ∧ In64 x.2.2) (hn : 16 < n) : ∃ es, ref14_Made n (xs.map triR) = some (evL es) ∧ All first es ∧ es.length ≤ 16 := by
  have main : ∃ r, ref14_Made n (xs.map triR) = some r ∧ ∃ es, r = evL es ∧ All first es ∧ es.length ≤ 16 := by
    unfold ref14_Made ref14_Made_1
    refine iterF_ex (fun s => ∃ (i : Nat) (es : List Ev) (l : Ln), s = (evL es, (i : Int), l.s, l.h, l.e, l.t) ∧ All first es ∧ es.length ≤ i ∧ i ≤ 16 ∧ l = fin first es) (fun s => 16 - s.2.1.toNat) (fun r => ∃ es, r = evL es ∧ All first es ∧ es.length ≤ 16) ?_ n _ ⟨0, [], first, rfl, trivial, by simp, by omega, rfl⟩ (by simp; omega)
    rintro _ go ⟨i, es, l, rfl, hA, hle, hi, hl⟩ ih
    simp only
    unfold ref14_Made_2
    have done : ∃ r, some (evL es) = some r ∧ ∃ es, r = evL es ∧ All first es ∧ es.length ≤ 16 := ⟨_, rfl, es, rfl, hA, by omega⟩
    by_cases h1 : i < xs.length
    · by_cases h2 : i < 16
      · obtain ⟨x, hxe⟩ := get_lt h1
        have hc : ∀ k, cA (xs.map triR) (i : Int) k = (triR x).getD k (.int 0) := fun k => cA_map (by simpa using hxe)
        have g0 : cI (xs.map triR) i 0 = x.1 := by simp only [cI, hc]; rfl
        have g1 : cI (xs.map triR) i 1 = x.2.1 := by simp only [cI, hc]; rfl
        have g2 : cI (xs.map triR) i 2 = x.2.2 := by simp only [cI, hc]; rfl
        obtain ⟨b1, b2, b3⟩ := hx x (List.mem_of_getElem? hxe)
        have hv : Vld l := by rw [hl]; exact all_vld vld_first hA
        obtain ⟨e, he⟩ := ref14_After_v n l x hv b1 b2 b3
        have c1 : (i : Int) < (xs.length : Int) := by omega
        have c2 : (i : Int) < 16 := by omega
        have c3 : (0 : Int) ≤ (i : Int) := by omega
        have c4 : (-9223372036854775808 : Int) ≤ (i : Int) + 1 := by omega
        have c5 : (i : Int) + 1 ≤ (9223372036854775807 : Int) := by omega
        have c6 : ((es.length : Int) + 1) * 24 ≤ 140737488355328 := by omega
        simp only [g0, g1, g2, he, ref14_Step_v n l e, List.length_map, c1, c2, c3, c4, c5, c6, decide_true, cond_true, Bool.and_self, Option.bind_some, stepT]
        by_cases hok : Ok l e
        · simp only [stepR_ok hok, decide_true, cond_true]
          exact ih _ ⟨i + 1, es ++ [e], nxt l e, by simp, by rw [all_app]; exact ⟨hA, by rw [← hl]; exact ⟨hok, trivial⟩⟩, by simp; omega, by omega, by rw [fin_app, ← hl]; rfl⟩ (by simp only; omega)
        · have e140 : decide ((140 : Int) = 0) = false := rfl
          simp only [stepR_no hok, e140, cond_false]
          exact ih _ ⟨i + 1, es, l, by simp, hA, by omega, by omega, hl⟩ (by simp only; omega)
      · have c1 : (i : Int) < (xs.length : Int) := by omega
        have c2 : ¬ (i : Int) < 16 := by omega
        simp only [List.length_map, c1, c2, decide_true, decide_false, cond_true, cond_false]
        exact done
    · have c1 : ¬ (i : Int) < (xs.length : Int) := by omega
      simp only [List.length_map, c1, decide_false, cond_false]
      exact done
  obtain ⟨r, h1, es, rfl, h2, h3⟩ := main
  exact ⟨es, h1, h2, h3⟩
end Go.Proofs.Ytjhakonpnopcnaa
