/-
  What the plain functions of lives give: stays that are the same, few events, bent lives, times.
-/
import Derived.Test.YtjhakonpnopcnaaW2
set_option linter.unusedVariables false
set_option linter.unusedSimpArgs false
set_option maxRecDepth 100000
namespace Go.Proofs.Ytjhakonpnopcnaa
open Go Go.Sx Go.Dial.Lif
theorem law14_pick_v (n : Nat) {c k : Int} (hc : In64 c) (hk : 0 < k) : law14_pick n c k = some (pk c k) := by
  unfold law14_pick law14_pick_1 pk
  unfold In64 at hc
  grind
theorem sameStays_refl (n : Nat) (v : Lv) (hv : v.length < n) (hb : v.length ≤ 1000) : ref14_SameStays n v v = some true := by
  unfold ref14_SameStays ref14_SameStays_1
  rw [decide_eq_true rfl, Bool.not_true, cond_false]
  refine iterF_ind (fun s => ∃ i : Nat, s = (i : Int) ∧ i ≤ v.length) (fun s => v.length - s.toNat) _ ?_ n _ ⟨0, rfl, by omega⟩ (by simp; omega)
  rintro _ go ⟨i, rfl, hi⟩ ih
  unfold ref14_SameStays_2
  by_cases hlt : i < v.length
  · have c1 : (i : Int) < (v.length : Int) := by omega
    have c2 : (0 : Int) ≤ (i : Int) := by omega
    have c4 : (-9223372036854775808 : Int) ≤ (i : Int) + 1 := by omega
    have c5 : (i : Int) + 1 ≤ (9223372036854775807 : Int) := by omega
    rw [decide_eq_true c1, cond_true, decide_eq_true c2, cond_true, cond_true, decide_eq_true rfl, decide_eq_true rfl, decide_eq_true rfl, decide_eq_true rfl, decide_eq_true c4, decide_eq_true c5]
    exact ih _ ⟨i + 1, rfl, by omega⟩ (by omega)
  · have c1 : ¬ (i : Int) < (v.length : Int) := by omega
    rw [decide_eq_false c1, cond_false]
theorem law14_few_v (n : Nat) (es : List Ev) : ∃ fs : List Ev, law14_few n (evL es) = some (evL fs) ∧ fs.length ≤ 41 := by
  unfold law14_few law14_few_1
  have hl : ((evL es).length : Int) = (es.length : Int) := by rw [List.length_map]
  have c1 : 0 ≤ imin ((evL es).length : Int) 41 := by unfold imin; split <;> omega
  have c2 : imin ((evL es).length : Int) 41 ≤ ((evL es).length : Int) := by unfold imin; split <;> omega
  have c3 : imin ((evL es).length : Int) 41 ≤ 41 := by unfold imin; split <;> omega
  rw [decide_eq_true c1, cond_true, decide_eq_true c2, cond_true]
  refine ⟨es.take (imin ((evL es).length : Int) 41).toNat, by rw [evL, ← List.map_take], ?_⟩
  rw [List.length_take]
  omega
theorem tdiv64 {x : Int} (hx : In64 x) : In64 (Int.tdiv x 64) := by
  unfold In64 at hx ⊢
  rcases Int.lt_or_le x 0 with h | h
  · have e : Int.tdiv x 64 = -(Int.tdiv (-x) 64) := by rw [Int.neg_tdiv, Int.neg_neg]
    rw [e, Int.tdiv_eq_ediv_of_nonneg (by omega)]
    omega
  · rw [Int.tdiv_eq_ediv_of_nonneg h]
    omega
theorem tdiv7 {x : Int} (hx : In64 x) : In64 (Int.tdiv x 7) := by
  unfold In64 at hx ⊢
  rcases Int.lt_or_le x 0 with h | h
  · have e : Int.tdiv x 7 = -(Int.tdiv (-x) 7) := by rw [Int.neg_tdiv, Int.neg_neg]
    rw [e, Int.tdiv_eq_ediv_of_nonneg (by omega)]
    omega
  · rw [Int.tdiv_eq_ediv_of_nonneg h]
    omega
theorem small {es : List Ev} (h : All first es) {i : Nat} {e : Ev} (he : es[i]? = some e) : 0 ≤ e.a ∧ e.a ≤ 10000000 := by
  have := all_frm h e (List.mem_of_getElem? he)
  exact ⟨this.2.2.1, this.2.2.2.1⟩
theorem ref14_Time_v (n : Nat) (es : List Ev) (x : Int) (hx : In64 x) (h : All first es) (hl : es.length ≤ 16) : ∃ z, ref14_Time n (evL es) x = some z := by
  unfold ref14_Time ref14_Time_1
  have hlen : ((evL es).length : Int) = (es.length : Int) := by rw [List.length_map]
  have c1 : (-9223372036854775808 : Int) ≤ ((evL es).length : Int) + 2 := by omega
  have c2 : ((evL es).length : Int) + 2 ≤ (9223372036854775807 : Int) := by omega
  have hk : (0 : Int) < ((evL es).length : Int) + 2 := by omega
  obtain ⟨p0, p1⟩ := pk_bd x hk
  have hd := tdiv64 hx
  obtain ⟨q0, q1⟩ := pk_bd (Int.tdiv x 64) (k := 3) (by decide)
  rw [decide_eq_true c1, decide_eq_true c2, Bool.and_self, cond_true, ref14_pick_v n hx hk, Option.bind_some, decide_eq_true hd.1, decide_eq_true hd.2, Bool.and_self, ref14_pick_v n hd (by decide)]
  generalize pk x (((evL es).length : Int) + 2) = y at p0 p1 ⊢
  generalize pk (Int.tdiv x 64) 3 = y3 at q0 q1 ⊢
  simp only [Option.bind_some]
  by_cases h1 : y < ((evL es).length : Int)
  · obtain ⟨i, rfl⟩ : ∃ i : Nat, y = (i : Int) := ⟨y.toNat, by omega⟩
    obtain ⟨e, he⟩ := get_lt (show i < es.length by omega)
    have hc : ∀ k, cA (evL es) (i : Int) k = (evR e).getD k (.int 0) := fun k => cA_map (by simpa using he)
    have x1 : cI (evL es) (i : Int) 1 = e.a := by simp only [cI, hc]; rfl
    obtain ⟨s1, s2⟩ := small h he
    have d1 : (-9223372036854775808 : Int) ≤ e.a + y3 := by omega
    have d2 : e.a + y3 ≤ (9223372036854775807 : Int) := by omega
    have d3 : (-9223372036854775808 : Int) ≤ e.a + y3 - 1 := by omega
    have d4 : e.a + y3 - 1 ≤ (9223372036854775807 : Int) := by omega
    rw [decide_eq_true h1, cond_true, decide_eq_true p0, cond_true, x1, decide_eq_true d1, decide_eq_true d2, decide_eq_true d3, decide_eq_true d4]
    exact ⟨_, rfl⟩
  · rw [decide_eq_false h1, cond_false]
    by_cases h2 : y = ((evL es).length : Int)
    · have d1 : (-9223372036854775808 : Int) ≤ 10000000 + y3 := by omega
      have d2 : 10000000 + y3 ≤ (9223372036854775807 : Int) := by omega
      have d3 : (-9223372036854775808 : Int) ≤ 10000000 + y3 - 1 := by omega
      have d4 : 10000000 + y3 - 1 ≤ (9223372036854775807 : Int) := by omega
      rw [decide_eq_true h2, cond_true, decide_eq_true d1, decide_eq_true d2, decide_eq_true d3, decide_eq_true d4]
      exact ⟨_, rfl⟩
    · have d1 : (-9223372036854775808 : Int) ≤ 0 + y3 := by omega
      have d2 : 0 + y3 ≤ (9223372036854775807 : Int) := by omega
      have d3 : (-9223372036854775808 : Int) ≤ 0 + y3 - 1 := by omega
      have d4 : 0 + y3 - 1 ≤ (9223372036854775807 : Int) := by omega
      rw [decide_eq_false h2, cond_false, decide_eq_true d1, decide_eq_true d2, decide_eq_true d3, decide_eq_true d4]
      exact ⟨_, rfl⟩
theorem mod_ev {es : List Ev} {i : Nat} {e : Ev} (he : es[i]? = some e) (f : List AV → List AV) (e' : Ev) (hf : f (evR e) = evR e') : List.modify (evL es) ((i : Int)).toNat f = evL (es.set i e') := by
  rw [mod_set (x := evR e) (by rw [List.getElem?_map, show ((i : Int)).toNat = i by simp, he]; rfl), hf, evL, show ((i : Int)).toNat = i by simp, ← List.map_set]
theorem ref14_Bent_v (n : Nat) (es : List Ev) (a b c : Int) (ha : In64 a) (hb : In64 b) (hc : In64 c) (hl : es.length ≤ 16) (hn : 100 < n) : ∃ fs : List Ev, ref14_Bent n (evL es) a b c = some (evL fs) ∧ fs.length ≤ 60 := by
  unfold ref14_Bent ref14_Bent_1
  have hlen : ((evL es).length : Int) = (es.length : Int) := by rw [List.length_map]
  have c0 : ((evL es).length : Int) * 24 ≤ 140737488355328 := by omega
  rw [decide_eq_true c0, cond_true]
  by_cases hz : ((evL es).length : Int) = 0
  · rw [decide_eq_true hz, cond_true]
    exact ⟨[⟨b, 0, c⟩], rfl, by simp⟩
  rw [decide_eq_false hz, cond_false]
  have hk : (0 : Int) < ((evL es).length : Int) := by omega
  obtain ⟨p0, p1⟩ := pk_bd c hk
  rw [ref14_pick_v n hc hk, Option.bind_some, ref14_pick_v n ha (by decide), Option.bind_some]
  generalize pk c ((evL es).length : Int) = y at p0 p1 ⊢
  generalize pk a 6 = y5
  obtain ⟨i, rfl⟩ : ∃ i : Nat, y = (i : Int) := ⟨y.toNat, by omega⟩
  obtain ⟨e, he⟩ := get_lt (show i < es.length by omega)
  have hcell : ∀ k, cA (evL es) (i : Int) k = (evR e).getD k (.int 0) := fun k => cA_map (by simpa using he)
  have x0 : cI (evL es) (i : Int) 0 = e.k := by simp only [cI, hcell]; rfl
  have x1 : cI (evL es) (i : Int) 1 = e.a := by simp only [cI, hcell]; rfl
  have x2 : cI (evL es) (i : Int) 2 = e.h := by simp only [cI, hcell]; rfl
  by_cases h0 : y5 = 0
  · rw [decide_eq_true h0, cond_true, decide_eq_true p0, cond_true, decide_eq_true p1, cond_true, mod_ev he _ ⟨b, e.a, e.h⟩ rfl]
    exact ⟨_, rfl, by simp; omega⟩
  rw [decide_eq_false h0, cond_false]
  by_cases h1 : y5 = 1
  · rw [decide_eq_true h1, cond_true, decide_eq_true p0, cond_true, decide_eq_true p1, cond_true, mod_ev he _ ⟨e.k, b, e.h⟩ rfl]
    exact ⟨_, rfl, by simp; omega⟩
  rw [decide_eq_false h1, cond_false]
  by_cases h2 : y5 = 2
  · rw [decide_eq_true h2, cond_true, decide_eq_true p0, cond_true, decide_eq_true p1, cond_true, mod_ev he _ ⟨e.k, e.a, b⟩ rfl]
    exact ⟨_, rfl, by simp; omega⟩
  rw [decide_eq_false h2, cond_false]
  by_cases h3 : y5 = 3
  · have d0 : (i : Int) ≤ ((evL es).length : Int) := by omega
    have d1 : (-9223372036854775808 : Int) ≤ (i : Int) + 1 := by omega
    have d2 : (i : Int) + 1 ≤ (9223372036854775807 : Int) := by omega
    have d3 : (0 : Int) ≤ (i : Int) + 1 := by omega
    have d4 : (i : Int) + 1 ≤ ((evL es).length : Int) := by omega
    have d5 : ((evL es).length : Int) ≤ ((evL es).length : Int) := by omega
    have hv : List.take ((i : Int)).toNat (evL es) ++ List.drop ((i : Int) + 1).toNat (List.take ((evL es).length : Int).toNat (evL es)) = evL (es.take i ++ es.drop (i + 1)) := by
      rw [show ((i : Int)).toNat = i by simp, show ((i : Int) + 1).toNat = i + 1 by omega, show (((evL es).length : Int)).toNat = (evL es).length by simp, List.take_length]
      unfold evL
      rw [List.map_append, List.map_take, List.map_drop]
    have hvl : (es.take i ++ es.drop (i + 1)).length ≤ 16 := by simp; omega
    have d6 : ((evL (es.take i ++ es.drop (i + 1))).length : Int) * 24 ≤ 140737488355328 := by
      have : ((evL (es.take i ++ es.drop (i + 1))).length : Int) = ((es.take i ++ es.drop (i + 1)).length : Int) := by rw [List.length_map]
      omega
    rw [decide_eq_true h3, cond_true, decide_eq_true p0, cond_true, decide_eq_true d0, cond_true, decide_eq_true d1, decide_eq_true d2, Bool.and_self, cond_true, decide_eq_true d3, cond_true, decide_eq_true d4, cond_true, decide_eq_true d5, cond_true, hv, decide_eq_true d6, cond_true]
    exact ⟨_, rfl, by omega⟩
  rw [decide_eq_false h3, cond_false]
  by_cases h4 : y5 = 4
  · have d6 : (((evL es).length : Int) + 1) * 24 ≤ 140737488355328 := by omega
    rw [decide_eq_true h4, cond_true, decide_eq_true p0, cond_true, decide_eq_true p1, cond_true, decide_eq_true d6, cond_true, x0, x1, x2]
    refine ⟨es ++ [e], by unfold evL; rw [List.map_append]; rfl, by simp; omega⟩
  rw [decide_eq_false h4, cond_false]
  have main : ∃ r, iterF (fun go0 s => ref14_Bent_2 n go0 b s) n (evL es : ref14_Bent_s0) = some r ∧ ∃ fs : List Ev, r = evL fs ∧ fs.length ≤ 60 := by
    refine iterF_ex (fun s => ∃ fs : List Ev, s = evL fs ∧ 0 < fs.length ∧ fs.length ≤ 50) (fun s => 60 - s.length) _ ?_ n _ ⟨es, rfl, by omega, by omega⟩ (by omega)
    rintro _ go ⟨fs, rfl, f1, f2⟩ ih
    unfold ref14_Bent_2
    obtain ⟨q0, q1⟩ := pk_bd b (k := 4) (by decide)
    rw [ref14_pick_v n hb (by decide), Option.bind_some]
    generalize pk b 4 = y7 at q0 q1 ⊢
    have hfl : ((evL fs).length : Int) = (fs.length : Int) := by rw [List.length_map]
    have d1 : (-9223372036854775808 : Int) ≤ 38 + y7 := by omega
    have d2 : 38 + y7 ≤ (9223372036854775807 : Int) := by omega
    rw [decide_eq_true d1, decide_eq_true d2, Bool.and_self, cond_true]
    by_cases g1 : ((evL fs).length : Int) < 38 + y7
    · have d3 : (-9223372036854775808 : Int) ≤ ((evL fs).length : Int) - 1 := by omega
      have d4 : ((evL fs).length : Int) - 1 ≤ (9223372036854775807 : Int) := by omega
      have d5 : (0 : Int) ≤ ((evL fs).length : Int) - 1 := by omega
      have d6 : ((evL fs).length : Int) - 1 < ((evL fs).length : Int) := by omega
      have d7 : (((evL fs).length : Int) + 1) * 24 ≤ 140737488355328 := by omega
      rw [decide_eq_true g1, cond_true, decide_eq_true d3, decide_eq_true d4, Bool.and_self, cond_true, decide_eq_true d5, cond_true, decide_eq_true d6, cond_true, decide_eq_true d7]
      have hmore : ∀ k x : Int, ∃ r, go (evL fs ++ [[(AV.int k), (AV.int x), (AV.int (-1))]]) = some r ∧ ∃ fs : List Ev, r = evL fs ∧ fs.length ≤ 60 := fun k x => by
        have hv : evL fs ++ [[(AV.int k), (AV.int x), (AV.int (-1))]] = evL (fs ++ [⟨k, x, -1⟩]) := by unfold evL; rw [List.map_append]; rfl
        rw [hv]
        exact ih _ ⟨_, rfl, by simp, by simp; omega⟩ (by simp; omega)
      by_cases g2 : cI (evL fs) (((evL fs).length : Int) - 1) 1 < 10000000
      · rw [decide_eq_true g2, cond_true]
        by_cases g3 : cI (evL fs) (((evL fs).length : Int) - 1) 0 = 3
        · rw [decide_eq_true g3, cond_true, cond_true]; exact hmore _ _
        · rw [decide_eq_false g3, cond_false, cond_true]; exact hmore _ _
      · rw [decide_eq_false g2, cond_false]
        exact ⟨_, rfl, fs, rfl, by omega⟩
    · rw [decide_eq_false g1, cond_false]
      exact ⟨_, rfl, fs, rfl, by omega⟩
  obtain ⟨r, h5, fs, rfl, h6⟩ := main
  exact ⟨fs, h5, h6⟩
end Go.Proofs.Ytjhakonpnopcnaa
