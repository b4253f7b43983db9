/-
  What the plain functions of chains give: happenings.
-/
import Derived.Test.YtjllgiddmeiaoaaQ12
set_option linter.unusedVariables false
set_option linter.unusedSimpArgs false
set_option maxRecDepth 100000
namespace Go.Proofs.Ytjllgiddmeiaoaa
open Go Go.Sx Go.Dial.Clm Go.Dial.Lif Go.Dial.Chn
abbrev hpR (h : Hp) : List AV := [.int h.a, .int h.p, .bool h.b]
abbrev hpL (l : List Hp) : Lv := l.map hpR
theorem modify_set {α : Type} {l : List α} {i : Nat} {f : α → α} {x : α} (h : l[i]? = some x) : l.modify i f = l.set i (f x) := by
  apply List.ext_getElem?
  intro j
  rw [List.getElem?_modify, List.getElem?_set]
  by_cases e : i = j
  · subst e
    obtain ⟨h1, h2⟩ := List.getElem?_eq_some_iff.1 h
    simp [h1, h2]
  · simp [e]
/-- two rows that follow each other change places -/
theorem swap_rows {A B : List Hp} {x y : Hp} {j : Nat} (hj : j = A.length + 1) :
    (List.modify (List.modify (List.modify (List.modify (List.modify (List.modify (hpL (A ++ y :: x :: B)) j (fun r => r.set 0 (AV.int y.a))) j (fun r => r.set 1 (AV.int y.p))) j (fun r => r.set 2 (AV.bool y.b))) (j - 1) (fun r => r.set 0 (AV.int x.a))) (j - 1) (fun r => r.set 1 (AV.int x.p))) (j - 1) (fun r => r.set 2 (AV.bool x.b))) = hpL (A ++ x :: y :: B) := by
  subst hj
  have e1 : ∀ (a b : List AV), ((A.map hpR) ++ a :: b :: B.map hpR)[A.length + 1]? = some b := fun a b => by
    rw [List.getElem?_append_right (by simp)]; simp
  have e2 : ∀ (a b : List AV), ((A.map hpR) ++ a :: b :: B.map hpR)[A.length]? = some a := fun a b => by
    rw [List.getElem?_append_right (by simp)]; simp
  have s1 : ∀ (a b c : List AV), ((A.map hpR) ++ a :: b :: B.map hpR).set (A.length + 1) c = (A.map hpR) ++ a :: c :: B.map hpR := fun a b c => by
    rw [List.set_append_right _ _ (by simp)]; simp
  have s2 : ∀ (a b c : List AV), ((A.map hpR) ++ a :: b :: B.map hpR).set A.length c = (A.map hpR) ++ c :: b :: B.map hpR := fun a b c => by
    rw [List.set_append_right _ _ (by simp)]; simp
  simp only [hpL, List.map_append, List.map_cons, Nat.add_sub_cancel]
  rw [modify_set (e1 _ _), s1, modify_set (e1 _ _), s1, modify_set (e1 _ _), s1, modify_set (e2 _ _), s2, modify_set (e2 _ _), s2, modify_set (e2 _ _), s2]
  rfl
theorem sort_stop (n : Nat) (go0 : chain_happenings_s1 → Option chain_happenings_a) (go1 : chain_happenings_s1 → Option chain_happenings_a) (i : Nat) (hi : i ≤ 100) (L : Lv) : chain_happenings_8 n go0 go1 (i : Int) 0 L = go0 ((i : Int) + 1, L) := by
  unfold chain_happenings_8
  have c8 : (-9223372036854775808 : Int) ≤ (i : Int) + 1 := by omega
  have c9 : (i : Int) + 1 ≤ (9223372036854775807 : Int) := by omega
  simp [c8, c9]
theorem sort_step (n : Nat) (go0 : chain_happenings_s1 → Option chain_happenings_a) (go1 : chain_happenings_s1 → Option chain_happenings_a) (i : Nat) (hi : i ≤ 100) (A B : List Hp) (x y : Hp) (hA : A.length ≤ 100) :
    chain_happenings_8 n go0 go1 (i : Int) ((A.length + 1 : Nat) : Int) (hpL (A ++ y :: x :: B)) = if ltH x y then go1 ((A.length : Int), hpL (A ++ x :: y :: B)) else go0 ((i : Int) + 1, hpL (A ++ y :: x :: B)) := by
  have hx : ∀ k, cA (hpL (A ++ y :: x :: B)) ((A.length + 1 : Nat) : Int) k = (hpR x).getD k (.int 0) := fun k => cA_map (by
    rw [show (((A.length + 1 : Nat) : Int)).toNat = A.length + 1 by omega, List.getElem?_append_right (by omega)]; simp)
  have hy : ∀ k, cA (hpL (A ++ y :: x :: B)) (((A.length + 1 : Nat) : Int) - 1) k = (hpR y).getD k (.int 0) := fun k => cA_map (by
    rw [show (((A.length + 1 : Nat) : Int) - 1).toNat = A.length by omega, List.getElem?_append_right (by omega)]; simp)
  have x0 : cI (hpL (A ++ y :: x :: B)) ((A.length + 1 : Nat) : Int) 0 = x.a := by simp only [cI, hx]; rfl
  have x1 : cI (hpL (A ++ y :: x :: B)) ((A.length + 1 : Nat) : Int) 1 = x.p := by simp only [cI, hx]; rfl
  have x2 : cB (hpL (A ++ y :: x :: B)) ((A.length + 1 : Nat) : Int) 2 = x.b := by simp only [cB, hx]; rfl
  have y0 : cI (hpL (A ++ y :: x :: B)) (((A.length + 1 : Nat) : Int) - 1) 0 = y.a := by simp only [cI, hy]; rfl
  have y1 : cI (hpL (A ++ y :: x :: B)) (((A.length + 1 : Nat) : Int) - 1) 1 = y.p := by simp only [cI, hy]; rfl
  have y2 : cB (hpL (A ++ y :: x :: B)) (((A.length + 1 : Nat) : Int) - 1) 2 = y.b := by simp only [cB, hy]; rfl
  have hsw := swap_rows (A := A) (B := B) (x := x) (y := y) (j := A.length + 1) rfl
  rw [Nat.add_sub_cancel] at hsw
  have t1 : (((A.length + 1 : Nat) : Int)).toNat = A.length + 1 := by omega
  have t2 : (((A.length + 1 : Nat) : Int) - 1).toNat = A.length := by omega
  have t3 : ((A.length + 1 : Nat) : Int) - 1 = (A.length : Int) := by omega
  have c8 : (-9223372036854775808 : Int) ≤ (i : Int) + 1 := by omega
  have c9 : (i : Int) + 1 ≤ (9223372036854775807 : Int) := by omega
  have d1 : (0 : Int) < ((A.length + 1 : Nat) : Int) := by omega
  have d2 : (0 : Int) ≤ ((A.length + 1 : Nat) : Int) := by omega
  have d3 : ((A.length + 1 : Nat) : Int) < ((hpL (A ++ y :: x :: B)).length : Int) := by simp; omega
  have d4 : (-9223372036854775808 : Int) ≤ ((A.length + 1 : Nat) : Int) - 1 := by omega
  have d5 : ((A.length + 1 : Nat) : Int) - 1 ≤ (9223372036854775807 : Int) := by omega
  have d6 : (0 : Int) ≤ ((A.length + 1 : Nat) : Int) - 1 := by omega
  have d7 : ((A.length + 1 : Nat) : Int) - 1 < ((hpL (A ++ y :: x :: B)).length : Int) := by simp; omega
  unfold chain_happenings_8
  generalize hL : hpL (A ++ y :: x :: B) = L at *
  generalize ((A.length + 1 : Nat) : Int) = j at *
  simp only [x0, x1, x2, y0, y1, y2, c8, c9, d1, d2, d3, d4, d5, d6, d7, t1, t2, hsw, decide_true, Bool.and_self]
  simp only [cond_true]
  rw [t3]
  by_cases hlt : ltH x y
  · rw [if_pos hlt]
    unfold ltH at hlt
    by_cases k1 : x.a < y.a
    · simp [k1]
    · have k4 : x.a = y.a := by omega
      have k5 : x.p < y.p := by omega
      simp [k4, k5]
  · rw [if_neg hlt]
    unfold ltH at hlt
    have k1 : ¬ x.a < y.a := by omega
    by_cases k2 : y.a < x.a
    · simp [k1, k2]
    · have k4 : x.a = y.a := by omega
      have k5 : ¬ x.p < y.p := by omega
      simp [k4, k5]
theorem sort_in (n : Nat) (go0 : chain_happenings_s1 → Option chain_happenings_a) (i : Nat) (hi : i ≤ 100) (x : Hp) (S R : List Hp) (hS : SortedH S) (hl : S.length ≤ 100) : ∀ (m : Nat) (A B : List Hp), S = A ++ B → (∀ y ∈ B, ltH x y) → A.length < m →
    iterF (fun go1 s => chain_happenings_8 n go0 go1 (i : Int) s.1 s.2) m ((A.length : Int), hpL (A ++ x :: (B ++ R))) = go0 ((i : Int) + 1, hpL (ins x S ++ R)) := by
  intro m
  induction m with
  | zero => intro A B _ _ h; omega
  | succ m ih =>
    intro A B hAB hB hm
    rw [iterF_succ]
    rcases List.eq_nil_or_concat A with rfl | ⟨A', y, rfl⟩
    · show chain_happenings_8 n go0 _ (i : Int) 0 _ = _
      rw [sort_stop n go0 _ i hi]
      have hS' : SortedH ([] ++ B) := hAB ▸ hS
      rw [hAB, ins_at hS' hB (fun y hy => by cases hy)]
      simp
    · rw [List.concat_eq_append] at hAB hm ⊢
      have e1 : (A' ++ [y]) ++ x :: (B ++ R) = A' ++ y :: x :: (B ++ R) := by simp
      have e2 : ((A' ++ [y]).length : Int) = ((A'.length + 1 : Nat) : Int) := by simp
      rw [e1, e2]
      show chain_happenings_8 n go0 _ (i : Int) ((A'.length + 1 : Nat) : Int) (hpL (A' ++ y :: x :: (B ++ R))) = _
      have hA' : A'.length ≤ 100 := by rw [hAB] at hl; simp at hl; omega
      rw [sort_step n go0 _ i hi A' (B ++ R) x y hA']
      by_cases hxy : ltH x y
      · rw [if_pos hxy]
        have := ih A' (y :: B) (by rw [hAB]; simp) (fun z hz => by
          rcases List.mem_cons.1 hz with rfl | hz
          · exact hxy
          · exact hB z hz) (by simp at hm; omega)
        rw [List.cons_append] at this
        exact this
      · rw [if_neg hxy]
        have hS' : SortedH ((A' ++ [y]) ++ B) := hAB ▸ hS
        rw [hAB, ins_at hS' hB (fun z hz => by simp at hz; subst hz; exact hxy)]
        simp
theorem sort_all (n : Nat) (l : List Hp) (hl : l.length ≤ 19) (hn : 200 < n) : iterF (fun go0 s => chain_happenings_7 n go0 (hpL l) s.1 s.2) n ((1 : Int), hpL l) = some (hpL (isort l)) := by
  refine iterF_ind (fun s => ∃ i : Nat, s = ((i : Int), hpL (isort (l.take i) ++ l.drop i)) ∧ 1 ≤ i ∧ i ≤ l.length + 1) (fun s => l.length + 1 - s.1.toNat) _ ?_ n _ ⟨1, ?_, by omega, by omega⟩ (by simp; omega)
  · rintro _ go ⟨i, rfl, h1, h2⟩ ih
    simp only
    unfold chain_happenings_7
    by_cases hlt : i < l.length
    · have c1 : (i : Int) < ((hpL l).length : Int) := by rw [List.length_map]; omega
      obtain ⟨x, hx⟩ := get_lt hlt
      rw [decide_eq_true c1, cond_true, drop_cons hx]
      have hli : (isort (l.take i)).length = i := by rw [isort_len, List.length_take]; omega
      have := sort_in n go i (by omega) x (isort (l.take i)) (l.drop (i + 1)) (sorted_isort _) (by omega) n (isort (l.take i)) [] (by simp) (fun y hy => by cases hy) (by omega)
      rw [hli, List.nil_append] at this
      rw [this]
      exact ih _ ⟨i + 1, by rw [take_snoc hx, isort_snoc]; simp, by omega, by omega⟩ (by simp only; omega)
    · have c1 : ¬ (i : Int) < ((hpL l).length : Int) := by rw [List.length_map]; omega
      have c2 : ¬ (20 : Int) < ((hpL l).length : Int) := by rw [List.length_map]; omega
      rw [decide_eq_false c1, cond_false, decide_eq_false c2, cond_false, List.take_of_length_le (by omega), List.drop_of_length_le (by omega), List.append_nil]
  · cases l with
    | nil => rfl
    | cons x l => rfl
end Go.Proofs.Ytjllgiddmeiaoaa
