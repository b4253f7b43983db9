/-
  Maps of blocks, the reference: the ends of two maps.
-/
import Derived.Test.YtgckmifmjiklmaaB2
import Derived.Test.YtgckmifmjiklmaaBa
import Derived.Test.YtgckmifmjiklmaaBlkN
set_option linter.unusedVariables false
set_option linter.unusedSimpArgs false
set_option maxRecDepth 100000
namespace Go.Proofs.Ytgckmifmjiklmaa
open Go Go.Sx Go.Dial.Blk
abbrev iR (x : Int) : List AV := [.int x]
abbrev iL (l : List Int) : Lv := l.map iR
theorem icell {l : List Int} {i : Nat} {x : Int} (h : l[i]? = some x) : cI (iL l) (i : Int) 0 = x := by
  have hc : ∀ k, cA (iL l) (i : Int) k = (iR x).getD k (.int 0) := fun k => cA_map (by simpa using h)
  simp only [cI, hc]; rfl
theorem ref13_put_v (n : Nat) (l : List Int) (x : Int) (hn : l.length < n) (hl : l.length ≤ 1000) : ref13_put n (iL l) x = some (iL (putI l x)) := by
  unfold ref13_put ref13_put_1
  refine iterF_ind (fun s => ∃ i : Nat, s = (i : Int) ∧ i ≤ l.length ∧ putI l x = l.take i ++ putI (l.drop i) x) (fun s => l.length - s.toNat) _ ?_ n _ ⟨0, rfl, by omega, by simp⟩ (by simp; omega)
  rintro _ go ⟨i, rfl, hi, hE⟩ ih
  unfold ref13_put_2
  have ht : (i : Int).toNat = i := by omega
  have ht2 : ((iL l).length : Int).toNat = l.length := by simp
  have e1 : List.take l.length (iL l) = iL l := by rw [List.take_of_length_le (by simp)]
  have e2 : List.take i (iL l) ++ (([] : Lv) ++ [[AV.int x]] ++ List.drop i (iL l)) = iL (l.take i ++ x :: l.drop i) := by simp [iL, List.map_take, List.map_drop]
  by_cases hlt : i < l.length
  · obtain ⟨b, hb⟩ := get_lt hlt
    have g0 := icell hb
    have c1 : (i : Int) < ((iL l).length : Int) := by simp; omega
    have c2 : (0 : Int) ≤ (i : Int) := by omega
    have c3 : (i : Int) ≤ ((iL l).length : Int) := by omega
    have c4 : (-9223372036854775808 : Int) ≤ (i : Int) + 1 := by omega
    have c5 : (i : Int) + 1 ≤ (9223372036854775807 : Int) := by omega
    have c6 : ((iL l).length : Int) ≤ ((iL l).length : Int) := Int.le_refl _
    rw [bdrop hb, putI] at hE
    rw [decide_eq_true c1, cond_true, decide_eq_true c2, cond_true, g0]
    by_cases h1 : b < x
    · rw [decide_eq_true h1, cond_true, decide_eq_true c4, decide_eq_true c5, Bool.and_self, cond_true]
      exact ih _ ⟨i + 1, by simp, by omega, by rw [hE, if_pos h1, take_snoc hb]; simp⟩ (by first | omega | (simp only; omega))
    · rw [if_neg h1] at hE
      rw [decide_eq_false h1, cond_false]
      by_cases h2 : b = x
      · rw [decide_eq_true h2, cond_true, hE, if_pos h2]
        congr 2
        rw [← bdrop hb, List.take_append_drop]
      · rw [if_neg h2] at hE
        rw [decide_eq_false h2, cond_false, decide_eq_true c3, cond_true, decide_eq_true c6, cond_true, ht, ht2, e1, e2, ← bdrop hb] at *
        have k1 : (((([] : Lv) ++ [[AV.int x]] ++ List.drop i (iL l)).length : Int) * 8) ≤ 140737488355328 := by simp; omega
        have k2 : ((iL (l.take i ++ x :: l.drop i)).length : Int) * 8 ≤ 140737488355328 := by simp; omega
        rw [decide_eq_true k1, cond_true, decide_eq_true k2, cond_true, hE]
  · have h0 : i = l.length := by omega
    have c1 : ¬ (i : Int) < ((iL l).length : Int) := by simp; omega
    have c2 : (0 : Int) ≤ (i : Int) := by omega
    have c3 : (i : Int) ≤ ((iL l).length : Int) := by simp; omega
    have c6 : ((iL l).length : Int) ≤ ((iL l).length : Int) := Int.le_refl _
    have k1 : (((([] : Lv) ++ [[AV.int x]] ++ List.drop i (iL l)).length : Int) * 8) ≤ 140737488355328 := by simp; omega
    have k2 : ((iL (l.take i ++ x :: l.drop i)).length : Int) * 8 ≤ 140737488355328 := by simp; omega
    have hd : l.drop i = [] := by rw [h0]; exact List.drop_length
    rw [hd, putI] at hE
    rw [decide_eq_false c1, cond_false, decide_eq_true c2, cond_true, decide_eq_true c3, cond_true, decide_eq_true c6, cond_true, ht, ht2, e1, e2, decide_eq_true k1, cond_true, decide_eq_true k2, cond_true, hE, hd]
theorem putB_take {l : List B3} {o : List Int} {i : Nat} {b : B3} (h : l[i]? = some b) : putB o (l.take (i + 1)) = putI (putI (putB o (l.take i)) b.f) b.t := by
  rw [take_snoc h]; simp [putB, List.foldl_append]
theorem ref13_edges_v (n : Nat) (a b : List B3) (hn : 210 < n) (ha : a.length ≤ 41) (hb : b.length ≤ 41) : ref13_edges n (bL a) (bL b) = some (iL (edgesI a b)) := by
  have l1 : ∀ i, (putB [0, 100000000] (a.take i)).length ≤ 84 := fun i => by have := putB_len (a.take i) [0, 100000000]; simp at this; omega
  have l2 : ∀ i, (putB (putB [0, 100000000] a) (b.take i)).length ≤ 166 := fun i => by
    have h1 := putB_len (b.take i) (putB [0, 100000000] a)
    have h2 := putB_len a [0, 100000000]
    simp at h1 h2; omega
  unfold ref13_edges ref13_edges_1
  refine iterF_ind (fun s => ∃ i : Nat, s = (iL (putB [0, 100000000] (a.take i)), (i : Int)) ∧ i ≤ a.length) (fun s => a.length - s.2.toNat) _ ?_ n _ ⟨0, rfl, by omega⟩ (by simp; omega)
  rintro _ go ⟨i, rfl, hi⟩ ih
  simp only at ih ⊢
  unfold ref13_edges_2
  by_cases hlt : i < a.length
  · obtain ⟨c, hc⟩ := get_lt hlt
    obtain ⟨g0, g1, g2⟩ := bcell hc
    have c1 : (i : Int) < ((bL a).length : Int) := by simp; omega
    have c2 : (0 : Int) ≤ (i : Int) := by omega
    have c4 : (-9223372036854775808 : Int) ≤ (i : Int) + 1 := by omega
    have c5 : (i : Int) + 1 ≤ (9223372036854775807 : Int) := by omega
    have hl := l1 i
    have hl2 := putI_len (putB [0, 100000000] (a.take i)) c.f
    rw [decide_eq_true c1, cond_true, decide_eq_true c2, cond_true, g0, g1, ref13_put_v n _ _ (by omega) (by omega), Option.bind_some, ref13_put_v n _ _ (by omega) (by omega), Option.bind_some, decide_eq_true c4, decide_eq_true c5, Bool.and_self, cond_true, ← putB_take hc]
    exact ih _ ⟨i + 1, by simp, by omega⟩ (by first | omega | (simp only; omega))
  · have c1 : ¬ (i : Int) < ((bL a).length : Int) := by simp; omega
    rw [decide_eq_false c1, cond_false, List.take_of_length_le (by omega)]
    refine iterF_ind (fun s => ∃ i : Nat, s = (iL (putB (putB [0, 100000000] a) (b.take i)), (i : Int)) ∧ i ≤ b.length) (fun s => b.length - s.2.toNat) _ ?_ n _ ⟨0, rfl, by omega⟩ (by simp; omega)
    rintro _ go ⟨i, rfl, hi⟩ ih
    simp only at ih ⊢
    unfold ref13_edges_3
    by_cases hlt : i < b.length
    · obtain ⟨c, hc⟩ := get_lt hlt
      obtain ⟨g0, g1, g2⟩ := bcell hc
      have c1 : (i : Int) < ((bL b).length : Int) := by simp; omega
      have c2 : (0 : Int) ≤ (i : Int) := by omega
      have c4 : (-9223372036854775808 : Int) ≤ (i : Int) + 1 := by omega
      have c5 : (i : Int) + 1 ≤ (9223372036854775807 : Int) := by omega
      have hl := l2 i
      have hl2 := putI_len (putB (putB [0, 100000000] a) (b.take i)) c.f
      rw [decide_eq_true c1, cond_true, decide_eq_true c2, cond_true, g0, g1, ref13_put_v n _ _ (by omega) (by omega), Option.bind_some, ref13_put_v n _ _ (by omega) (by omega), Option.bind_some, decide_eq_true c4, decide_eq_true c5, Bool.and_self, cond_true, ← putB_take hc]
      exact ih _ ⟨i + 1, by simp, by omega⟩ (by first | omega | (simp only; omega))
    · have c1 : ¬ (i : Int) < ((bL b).length : Int) := by simp; omega
      rw [decide_eq_false c1, cond_false, List.take_of_length_le (by omega)]
      rfl
end Go.Proofs.Ytgckmifmjiklmaa
