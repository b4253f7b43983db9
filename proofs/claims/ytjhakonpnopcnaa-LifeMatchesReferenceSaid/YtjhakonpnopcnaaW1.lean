/-
  What the plain functions of lives give: mail kept, its fate, stays.
-/
import Derived.Test.YtjhakonpnopcnaaQ4
import Derived.Test.YtjhakonpnopcnaaD2
set_option linter.unusedVariables false
set_option linter.unusedSimpArgs false
set_option maxRecDepth 100000
namespace Go.Proofs.Ytjhakonpnopcnaa
open Go Go.Sx Go.Dial.Lif
abbrev keepT (es : List Ev) (t : Int) : Int × Int × Int := ((keepR es t).1.1, (keepR es t).1.2, (keepR es t).2)
abbrev fateT (es : List Ev) (me ma t : Int) : Int × Int × Int := ((fateR es me ma t).1.1, (fateR es me ma t).1.2, (fateR es me ma t).2)
theorem ref14_Keep_v (n : Nat) (es : List Ev) (t : Int) (hn : es.length < n) : ref14_Keep n (evL es) t = some (keepT es t) := by
  unfold ref14_Keep ref14_Keep_1
  rw [ref14_At_v n es t hn, Option.bind_some]
  unfold keepT keepR OkKeep Used atT atR
  by_cases h : OkAt es t
  · by_cases h1 : (atL es t).s = 1
    · simp [h, h1]
    · by_cases h2 : (atL es t).s = 2
      · simp [h, h2]
      · simp [h, h1, h2]
  · simp [h]
theorem life_Keep_v (n : Nat) (es : List Ev) (t : Int) (hn : es.length < n) : life_Keep n (evL es) t = some (keepT es t) := by
  unfold life_Keep life_Keep_1
  rw [life_at_v n es t hn, Option.bind_some]
  unfold keepT keepR OkKeep Used
  by_cases h : OkAt es t
  · by_cases h1 : (atL es t).s = 1
    · simp [h, h1]
    · by_cases h2 : (atL es t).s = 2
      · simp [h, h2]
      · simp [h, h1, h2]
  · simp [h]
theorem ref14_Fate_v (n : Nat) (es : List Ev) (me ma t : Int) (hn : es.length < n) : ref14_Fate n (evL es) me ma t = some (fateT es me ma t) := by
  unfold ref14_Fate ref14_Fate_1
  rw [ref14_Keep_v n es ma hn, Option.bind_some]
  unfold fateT fateR OkFate keepT keepR
  by_cases hk : OkKeep es ma
  · by_cases he : (atL es ma).e = me
    · by_cases h1 : ma ≤ t
      · by_cases h2 : t ≤ 10000000
        · have h1' : ¬ t < ma := by omega
          have h2' : ¬ (10000000 : Int) < t := by omega
          simp only [hk, he, h1, h2, h1', h2', if_true, and_self, decide_true, decide_false, Bool.and_self, Bool.not_true, cond_false]
          rw [ref14_at_v n es t hk.1.1 hn, Option.bind_some]
          unfold fateV
          by_cases g1 : (atL es t).e = me
          · by_cases g2 : (atL es t).s = 0
            · simp [g1, g2]
            · by_cases g3 : (atL es t).s = 1
              · simp [g1, g3]
              · simp [g1, g2, g3]
          · simp [g1]
        · have h1' : ¬ t < ma := by omega
          have h2' : (10000000 : Int) < t := by omega
          simp [hk, he, h1, h2, h1', h2']
      · have h1' : t < ma := by omega
        simp [hk, he, h1, h1']
    · simp [hk, he]
  · simp [hk]
theorem life_Fate_v (n : Nat) (es : List Ev) (me ma t : Int) (hn : es.length < n) : life_Fate n (evL es) me ma t = some (fateT es me ma t) := by
  unfold life_Fate life_Fate_1
  rw [life_Keep_v n es ma hn, Option.bind_some, life_at_v n es t hn, Option.bind_some]
  unfold fateT fateR OkFate keepT keepR
  by_cases hk : OkKeep es ma
  · by_cases he : (atL es ma).e = me
    · by_cases h1 : ma ≤ t
      · have hm0 : 0 ≤ ma := hk.1.2.1
        have h1' : ¬ t < ma := by omega
        by_cases h2 : t ≤ 10000000
        · have hat : OkAt es t := ⟨hk.1.1, by omega, h2⟩
          simp only [hk, he, h1, h2, h1', hat, if_true, and_self, decide_true, decide_false, Bool.not_true, cond_false]
          unfold fateV
          by_cases g1 : (atL es t).e = me
          · by_cases g2 : (atL es t).s = 0
            · simp [g1, g2]
            · by_cases g3 : (atL es t).s = 1
              · simp [g1, g3]
              · simp [g1, g2, g3]
          · by_cases g2 : (atL es t).s = 0
            · simp [g1, g2]
            · simp [g1, g2]
        · have hat : ¬ OkAt es t := fun h => h2 h.2.2
          simp [hk, he, h1, h2, hat]
      · have h1' : t < ma := by omega
        by_cases hat : OkAt es t
        · simp [hk, he, h1, h1', hat]
        · simp [hk, he, h1, hat]
    · simp [hk, he]
  · simp [hk]
/-! stays -/
abbrev stR (y : St) : List AV := [.int y.h, .int y.e, .int y.f, .int y.t]
abbrev stL (l : List St) : Lv := l.map stR
theorem mod_set {α : Type} {l : List α} {i : Nat} {f : α → α} {x : α} (h : l[i]? = some x) : l.modify i f = l.set i (f x) := by
  obtain ⟨h1, h2⟩ := List.getElem?_eq_some_iff.1 h
  refine List.ext_getElem? fun j => ?_
  rw [List.getElem?_modify, List.getElem?_set]
  by_cases e : i = j
  · subst e; simp [h1, h2]
  · simp [e]
/-- one more stay, as cells -/
theorem stay_add {α : Type} (G : Lv → Option α) (out : List St) (s h e f to : Int) (hl : out.length ≤ 1000) (hu : s = 1 ∨ s = 2) (hf : f ≠ to) :
    (bif (decide (0 < ((stL out).length : Int))) then bif ((decide ((-9223372036854775808) ≤ (((stL out).length : Int) - 1))) && (decide ((((stL out).length : Int) - 1) ≤ 9223372036854775807))) then bif (decide (0 ≤ (((stL out).length : Int) - 1))) then bif (decide ((((stL out).length : Int) - 1) < ((stL out).length : Int))) then (bif (decide ((cI (stL out) (((stL out).length : Int) - 1) 1) = e)) then (bif (decide ((cI (stL out) (((stL out).length : Int) - 1) 3) = f)) then G (List.modify (stL out) ((((stL out).length : Int) - 1)).toNat (fun r => r.set 3 (AV.int to)))
      else bif (decide (((((stL out).length : Int) + 1) * 32) ≤ 140737488355328)) then G ((stL out) ++ [[(AV.int h), (AV.int e), (AV.int f), (AV.int to)]]) else none)
      else bif (decide (((((stL out).length : Int) + 1) * 32) ≤ 140737488355328)) then G ((stL out) ++ [[(AV.int h), (AV.int e), (AV.int f), (AV.int to)]]) else none) else none else none else none
      else bif (decide (((((stL out).length : Int) + 1) * 32) ≤ 140737488355328)) then G ((stL out) ++ [[(AV.int h), (AV.int e), (AV.int f), (AV.int to)]]) else none) = G (stL (stS out ⟨s, h, e, f⟩ to)) := by
  have hlen : (stL out).length = out.length := List.length_map ..
  have hU : Used ⟨s, h, e, f⟩ ∧ (⟨s, h, e, f⟩ : Ln).t ≠ to := ⟨hu, hf⟩
  have c32 : (((stL out).length : Int) + 1) * 32 ≤ 140737488355328 := by rw [hlen]; omega
  rcases List.eq_nil_or_concat out with rfl | ⟨o, y, rfl⟩
  · rw [stS_nil hU]
    have c0 : ¬ (0 : Int) < ((stL ([] : List St)).length : Int) := by simp
    rw [decide_eq_false c0, cond_false, decide_eq_true c32, cond_true]
    rfl
  · rw [List.concat_eq_append] at hl hlen c32 ⊢
    rw [stS_snoc hU]
    have e1 : ((stL (o ++ [y])).length : Int) - 1 = (o.length : Int) := by rw [hlen]; simp
    have c0 : (0 : Int) < ((stL (o ++ [y])).length : Int) := by rw [hlen, List.length_append, List.length_singleton]; omega
    have c1 : (-9223372036854775808 : Int) ≤ (o.length : Int) := by omega
    have hl' : o.length + 1 ≤ 1000 := by simpa using hl
    have c2 : (o.length : Int) ≤ (9223372036854775807 : Int) := by omega
    have c3 : (0 : Int) ≤ (o.length : Int) := by omega
    have c4 : (o.length : Int) < ((stL (o ++ [y])).length : Int) := by rw [hlen, List.length_append, List.length_singleton]; omega
    have hy : (o ++ [y])[(o.length : Int).toNat]? = some y := by simp
    have hc : ∀ k, cA (stL (o ++ [y])) (o.length : Int) k = (stR y).getD k (.int 0) := fun k => cA_map hy
    have x1 : cI (stL (o ++ [y])) (o.length : Int) 1 = y.e := by simp only [cI, hc]; rfl
    have x3 : cI (stL (o ++ [y])) (o.length : Int) 3 = y.t := by simp only [cI, hc]; rfl
    have hmod : List.modify (stL (o ++ [y])) (o.length : Int).toNat (fun r => r.set 3 (AV.int to)) = stL (o ++ [⟨y.h, y.e, y.f, to⟩]) := by
      unfold stL
      rw [mod_set (x := stR y) (by rw [List.getElem?_map, hy]; rfl), List.map_append, List.map_append, show (o.length : Int).toNat = (o.map stR).length by simp, List.set_append_right _ _ (Nat.le_refl _), Nat.sub_self]
      rfl
    rw [e1, decide_eq_true c0, cond_true, decide_eq_true c1, decide_eq_true c2, Bool.and_self, cond_true, decide_eq_true c3, cond_true, decide_eq_true c4, cond_true, x1, x3, hmod]
    have happ : stL (o ++ [y]) ++ [[(AV.int h), (AV.int e), (AV.int f), (AV.int to)]] = stL ((o ++ [y]) ++ [⟨h, e, f, to⟩]) := by
      unfold stL; rw [List.map_append (l₁ := o ++ [y])]; rfl
    by_cases h1 : y.e = e
    · by_cases h2 : y.t = f
      · rw [decide_eq_true h1, cond_true, decide_eq_true h2, cond_true, if_pos ⟨h1, h2⟩]
      · rw [decide_eq_true h1, cond_true, decide_eq_false h2, cond_false, decide_eq_true c32, cond_true, if_neg (fun h => h2 h.2), happ]
    · rw [decide_eq_false h1, cond_false, decide_eq_true c32, cond_true, if_neg (fun h => h1 h.1), happ]
end Go.Proofs.Ytjhakonpnopcnaa
