/-
  What the plain functions of chains give: drawn times, copies, comparisons, picks.
-/
import Derived.Test.YtjllgiddmeiaoaaQ19
set_option linter.unusedVariables false
set_option linter.unusedSimpArgs false
set_option maxRecDepth 100000
namespace Go.Proofs.Ytjllgiddmeiaoaa
open Go Go.Sx Go.Dial.Clm Go.Dial.Lif Go.Dial.Chn
theorem law17_pick_v (n : Nat) {c k : Int} (hc : In64 c) (hk : 0 < k) : law17_pick n c k = some (pk c k) := by
  unfold law17_pick law17_pick_1 pk
  unfold In64 at hc
  grind
theorem tdiv64 {v : Int} (h : In64 v) : In64 (Int.tdiv v 64) := by
  unfold In64 at h ⊢
  rcases Int.le_total 0 v with h0 | h0
  · rw [Int.tdiv_eq_ediv_of_nonneg h0]; omega
  · obtain ⟨w, rfl⟩ : ∃ w, v = -w := ⟨-v, by omega⟩
    rw [Int.neg_tdiv, Int.tdiv_eq_ediv_of_nonneg (by omega)]; omega
theorem clamp_bd (z : Int) {m : Int} (hm : 0 ≤ m) : 0 ≤ imin (imax z 0) m ∧ imin (imax z 0) m ≤ m := by
  unfold imin imax
  grind
/-- a time is drawn -/
theorem ref17_Time_v (n : Nat) (c : Ch) (x : Int) (hV : ChV c) (hx : In64 x) (hn : 200 < n) : ∃ t, ref17_Time n c.n c.f c.r.a c.r.c c.r.s c.r.r (evL c.life) (ptL c.ps) x = some t ∧ 0 ≤ t ∧ t ≤ 20000000 := by
  unfold ref17_Time ref17_Time_1
  obtain ⟨_, _, _, _, _, h8, hP⟩ := id hV
  refine iterF_ex (fun s => ∃ (i : Nat) (L : List Int), s = (inL L, (i : Int)) ∧ i ≤ c.ps.length ∧ L.length ≤ 110 * i ∧ ∀ y ∈ L, 0 ≤ y ∧ y ≤ 23000000) (fun s => c.ps.length - s.2.toNat) (fun t => 0 ≤ t ∧ t ≤ 20000000) ?_ n _ ⟨0, [], rfl, by omega, by simp, fun y hy => by cases hy⟩ (by simp; omega)
  rintro _ go ⟨i, L, rfl, hi, hL, hb⟩ ih
  simp only
  unfold ref17_Time_2
  have hLl : ((inL L).length : Int) = (L.length : Int) := by rw [List.length_map]
  by_cases hlt : i < c.ps.length
  · obtain ⟨p, hp⟩ := get_lt hlt
    obtain ⟨g0, g1, g2, g3, g4, g5, g6⟩ := port_cells hp
    have hv := (ptsV_all hP p (List.mem_of_getElem? hp)).2
    have c1 : (i : Int) < ((ptL c.ps).length : Int) := by rw [List.length_map]; omega
    have c2 : (0 : Int) ≤ (i : Int) := by omega
    have c4 : (-9223372036854775808 : Int) ≤ (i : Int) + 1 := by omega
    have c5 : (i : Int) + 1 ≤ (9223372036854775807 : Int) := by omega
    rw [decide_eq_true c1, cond_true, decide_eq_true c2, cond_true, g0, g1, g2, g3, g4, g5, g6, ref16_Timeline_v n c.r p.c p.es hn, if_pos hv, Option.bind_some]
    simp only
    obtain ⟨T, hT⟩ : ∃ T, T = timeline c.r p.c p.es := ⟨_, rfl⟩
    have hTl := timeline_len (r := c.r) (c := p.c) (es := p.es) hv.2.2.1
    have hTb : ∀ y ∈ T, 0 ≤ y.f ∧ y.f ≤ 23000000 := fun y hy => by
      rw [hT] at hy
      have a1 := timeline_ge hv y hy
      have a2 := timeline_le hv y hy
      have a3 := hv.2.1
      unfold ClV at a3
      omega
    rw [← hT] at hTl ⊢
    refine iterF_ex (fun s => ∃ (j : Nat) (M : List Int), s = (inL M, (j : Int)) ∧ j ≤ T.length ∧ M.length = L.length + j ∧ ∀ y ∈ M, 0 ≤ y ∧ y ≤ 23000000) (fun s => T.length - s.2.toNat) (fun t => 0 ≤ t ∧ t ≤ 20000000) ?_ n _ ⟨0, L, rfl, by omega, by simp, hb⟩ (by simp; omega)
    rintro _ go2 ⟨j, M, rfl, hj, hM, hMb⟩ ih2
    simp only
    unfold ref17_Time_3
    have hMl : ((inL M).length : Int) = (M.length : Int) := by rw [List.length_map]
    by_cases hjl : j < T.length
    · obtain ⟨y, hy⟩ := get_lt hjl
      have hcell : ∀ k, cA (csL T) (j : Int) k = (csR y).getD k (.int 0) := fun k => cA_map (by simpa using hy)
      have z1 : cI (csL T) j 1 = y.f := by simp only [cI, hcell]; rfl
      have d1 : (j : Int) < ((csL T).length : Int) := by rw [List.length_map]; omega
      have d2 : (0 : Int) ≤ (j : Int) := by omega
      have d3 : (((inL M).length : Int) + 1) * 8 ≤ 140737488355328 := by rw [hMl]; omega
      have d4 : (-9223372036854775808 : Int) ≤ (j : Int) + 1 := by omega
      have d5 : (j : Int) + 1 ≤ (9223372036854775807 : Int) := by omega
      rw [decide_eq_true d1, cond_true, decide_eq_true d2, cond_true, decide_eq_true d3, cond_true, decide_eq_true d4, decide_eq_true d5, Bool.and_self, cond_true, z1]
      refine ih2 _ ⟨j + 1, M ++ [y.f], by simp, by omega, by simp; omega, fun z hz => ?_⟩ (by simp only; omega)
      rcases List.mem_append.1 hz with hz | hz
      · exact hMb z hz
      · rw [List.mem_singleton] at hz; rw [hz]; exact hTb y (List.mem_of_getElem? hy)
    · have d1 : ¬ (j : Int) < ((csL T).length : Int) := by rw [List.length_map]; omega
      rw [decide_eq_false d1, cond_false, decide_eq_true c4, decide_eq_true c5, Bool.and_self, cond_true]
      exact ih _ ⟨i + 1, M, by simp, by omega, by omega, hMb⟩ (by simp only; omega)
  · have c1 : ¬ (i : Int) < ((ptL c.ps).length : Int) := by rw [List.length_map]; omega
    have e1 : ((((inL L).length : Int) + 1) + 1) * 8 ≤ 140737488355328 := by rw [hLl]; omega
    have hpk := pk_bd x (k := (((inL L).length : Int) + 1) + 1) (by omega)
    have p64 := tdiv64 hx
    have hpk3 := pk_bd (Int.tdiv x 64) (k := 3) (by decide)
    rw [decide_eq_false c1, cond_false, decide_eq_true e1, cond_true, ref17_pick_v n hx (show (0 : Int) < (((inL L).length : Int) + 1) + 1 by omega), Option.bind_some, decide_eq_true hpk.1, cond_true, decide_eq_true hpk.2, cond_true, decide_eq_true p64.1, decide_eq_true p64.2, Bool.and_self, cond_true, ref17_pick_v n p64 (show (0 : Int) < 3 by decide), Option.bind_some]
    have hcell : ∀ k : Nat, k < L.length + 2 → 0 ≤ cI (((inL L) ++ [[(AV.int 0)]]) ++ [[(AV.int 20000000)]]) (k : Int) 0 ∧ cI (((inL L) ++ [[(AV.int 0)]]) ++ [[(AV.int 20000000)]]) (k : Int) 0 ≤ 23000000 := fun k hk => by
      have e : ((inL L) ++ [[(AV.int 0)]]) ++ [[(AV.int 20000000)]] = inL (L ++ [0, 20000000]) := by simp
      obtain ⟨y, hy⟩ := get_lt (l := L ++ [0, 20000000]) (i := k) (by simp; omega)
      have hc : cA (inL (L ++ [0, 20000000])) (k : Int) 0 = ([AV.int y] : List AV).getD 0 (.int 0) := cA_map (by simpa using hy)
      have hc2 : cI (inL (L ++ [0, 20000000])) (k : Int) 0 = y := by simp only [cI, hc]; rfl
      rw [e, hc2]
      have := List.mem_of_getElem? hy
      simp only [List.mem_append, List.mem_cons, List.not_mem_nil, or_false] at this
      rcases this with h | h | h
      · exact hb y h
      · omega
      · omega
    obtain ⟨k, hk⟩ : ∃ k : Nat, pk x ((((inL L).length : Int) + 1) + 1) = (k : Int) := ⟨(pk x ((((inL L).length : Int) + 1) + 1)).toNat, by omega⟩
    rw [hk]
    have hq := hcell k (by omega)
    obtain ⟨q, hqq⟩ : ∃ q, q = cI (((inL L) ++ [[(AV.int 0)]]) ++ [[(AV.int 20000000)]]) (k : Int) 0 := ⟨_, rfl⟩
    rw [← hqq] at hq ⊢
    have f1 : (-9223372036854775808 : Int) ≤ q + pk (Int.tdiv x 64) 3 := by omega
    have f2 : q + pk (Int.tdiv x 64) 3 ≤ (9223372036854775807 : Int) := by omega
    have f3 : (-9223372036854775808 : Int) ≤ q + pk (Int.tdiv x 64) 3 - 1 := by omega
    have f4 : q + pk (Int.tdiv x 64) 3 - 1 ≤ (9223372036854775807 : Int) := by omega
    rw [decide_eq_true f1, decide_eq_true f2, Bool.and_self, cond_true, decide_eq_true f3, decide_eq_true f4, Bool.and_self, cond_true]
    exact ⟨_, rfl, clamp_bd _ (by decide)⟩
/-- rows of integers, compared -/
theorem cell_in {L : List Int} {j : Nat} {x : Int} (h : L[j]? = some x) : cI (inL L) (j : Int) 0 = x := by
  have : cA (inL L) (j : Int) 0 = ([AV.int x] : List AV).getD 0 (.int 0) := cA_map (by simpa using h)
  simp only [cI, this]; rfl
theorem take_ext {α : Type} {a b : List α} (hl : a.length = b.length) (h : a.take a.length = b.take a.length) : a = b := by
  rw [List.take_length, hl, List.take_length] at h; exact h
theorem ref16_Ints_v (n : Nat) (a b : List Int) (hn : a.length < n) (hl : a.length ≤ 1000000) : ref16_Ints n (inL a) (inL b) = some (decide (a = b)) := by
  unfold ref16_Ints ref16_Ints_1
  by_cases hlen : a.length = b.length
  · have c0 : ((inL a).length : Int) = ((inL b).length : Int) := by rw [List.length_map, List.length_map, hlen]
    rw [decide_eq_true c0, Bool.not_true, cond_false]
    refine iterF_ind (fun s => ∃ i : Nat, s = (i : Int) ∧ i ≤ a.length ∧ a.take i = b.take i) (fun s => a.length - s.toNat) _ ?_ n _ ⟨0, rfl, by omega, by simp⟩ (by simp; omega)
    rintro _ go ⟨i, rfl, hi, ht⟩ ih
    unfold ref16_Ints_2
    by_cases hlt : i < a.length
    · obtain ⟨x, hx⟩ := get_lt hlt
      obtain ⟨y, hy⟩ := get_lt (l := b) (i := i) (by omega)
      have c1 : (i : Int) < ((inL a).length : Int) := by rw [List.length_map]; omega
      have c2 : (0 : Int) ≤ (i : Int) := by omega
      have c3 : (i : Int) < ((inL b).length : Int) := by rw [List.length_map]; omega
      have c4 : (-9223372036854775808 : Int) ≤ (i : Int) + 1 := by omega
      have c5 : (i : Int) + 1 ≤ (9223372036854775807 : Int) := by omega
      rw [decide_eq_true c1, cond_true, decide_eq_true c2, cond_true, decide_eq_true c3, cond_true, cell_in hx, cell_in hy]
      by_cases he : x = y
      · rw [decide_eq_true he, Bool.not_true, cond_false, decide_eq_true c4, decide_eq_true c5, Bool.and_self, cond_true]
        exact ih _ ⟨i + 1, by omega, by omega, by rw [take_snoc hx, take_snoc hy, ht, he]⟩ (by omega)
      · rw [decide_eq_false he, Bool.not_false, cond_true]
        have : a ≠ b := fun e => he (by rw [e] at hx; rw [hx] at hy; exact Option.some.inj hy)
        rw [decide_eq_false this]
    · have h0 : i = a.length := by omega
      have c1 : ¬ (i : Int) < ((inL a).length : Int) := by rw [List.length_map]; omega
      rw [decide_eq_false c1, cond_false]
      subst h0
      rw [decide_eq_true (take_ext hlen ht)]
  · have c0 : ¬ ((inL a).length : Int) = ((inL b).length : Int) := by rw [List.length_map, List.length_map]; omega
    rw [decide_eq_false c0, Bool.not_false, cond_true, decide_eq_false (fun e => hlen (by rw [e]))]
theorem law17_has_v (n : Nat) (a : List Int) (x : Int) (hn : a.length < n) (hl : a.length ≤ 1000000) : law17_has n (inL a) x = some (decide (x ∈ a)) := by
  unfold law17_has law17_has_1
  refine iterF_ind (fun s => ∃ i : Nat, s = (i : Int) ∧ i ≤ a.length ∧ x ∉ a.take i) (fun s => a.length - s.toNat) _ ?_ n _ ⟨0, rfl, by omega, by simp⟩ (by simp; omega)
  rintro _ go ⟨i, rfl, hi, ht⟩ ih
  unfold law17_has_2
  by_cases hlt : i < a.length
  · obtain ⟨y, hy⟩ := get_lt hlt
    have c1 : (i : Int) < ((inL a).length : Int) := by rw [List.length_map]; omega
    have c2 : (0 : Int) ≤ (i : Int) := by omega
    have c4 : (-9223372036854775808 : Int) ≤ (i : Int) + 1 := by omega
    have c5 : (i : Int) + 1 ≤ (9223372036854775807 : Int) := by omega
    rw [decide_eq_true c1, cond_true, decide_eq_true c2, cond_true, cell_in hy]
    by_cases he : y = x
    · rw [decide_eq_true he, cond_true, decide_eq_true (by rw [← he]; exact List.mem_of_getElem? hy)]
    · rw [decide_eq_false he, cond_false, decide_eq_true c4, decide_eq_true c5, Bool.and_self, cond_true]
      refine ih _ ⟨i + 1, by omega, by omega, ?_⟩ (by omega)
      rw [take_snoc hy, List.mem_append, List.mem_singleton]
      rintro (h | h)
      · exact ht h
      · exact he h.symm
  · have h0 : i = a.length := by omega
    have c1 : ¬ (i : Int) < ((inL a).length : Int) := by rw [List.length_map]; omega
    rw [decide_eq_false c1, cond_false]
    subst h0
    rw [List.take_length] at ht
    rw [decide_eq_false ht]
/-- turns, compared -/
abbrev T3 := Int × Int × Int
abbrev t3R (x : T3) : List AV := [.int x.1, .int x.2.1, .int x.2.2]
abbrev t3L (l : List T3) : Lv := l.map t3R
def tnT (m : Mo) : T3 := (m.a, m.p, m.k)
theorem tnL_t3 (l : List Mo) : tnL l = t3L (l.map tnT) := by simp [tnT]
theorem t3_cells {l : List T3} {i : Nat} {x : T3} (h : l[i]? = some x) : cI (t3L l) (i : Int) 0 = x.1 ∧ cI (t3L l) (i : Int) 1 = x.2.1 ∧ cI (t3L l) (i : Int) 2 = x.2.2 := by
  have hc : ∀ k, cA (t3L l) (i : Int) k = (t3R x).getD k (.int 0) := fun k => cA_map (by simpa using h)
  refine ⟨?_, ?_, ?_⟩ <;> simp only [cI, hc] <;> rfl
theorem ref17_SameTurns_v (n : Nat) (a b : List T3) (hn : a.length < n) (hl : a.length ≤ 1000000) : ref17_SameTurns n (t3L a) (t3L b) = some (decide (a = b)) := by
  unfold ref17_SameTurns ref17_SameTurns_1
  by_cases hlen : a.length = b.length
  · have c0 : ((t3L a).length : Int) = ((t3L b).length : Int) := by rw [List.length_map, List.length_map, hlen]
    rw [decide_eq_true c0, Bool.not_true, cond_false]
    refine iterF_ind (fun s => ∃ i : Nat, s = (i : Int) ∧ i ≤ a.length ∧ a.take i = b.take i) (fun s => a.length - s.toNat) _ ?_ n _ ⟨0, rfl, by omega, by simp⟩ (by simp; omega)
    rintro _ go ⟨i, rfl, hi, ht⟩ ih
    unfold ref17_SameTurns_2
    by_cases hlt : i < a.length
    · obtain ⟨x, hx⟩ := get_lt hlt
      obtain ⟨y, hy⟩ := get_lt (l := b) (i := i) (by omega)
      obtain ⟨x0, x1, x2⟩ := t3_cells hx
      obtain ⟨y0, y1, y2⟩ := t3_cells hy
      have c1 : (i : Int) < ((t3L a).length : Int) := by rw [List.length_map]; omega
      have c2 : (0 : Int) ≤ (i : Int) := by omega
      have c3 : (i : Int) < ((t3L b).length : Int) := by rw [List.length_map]; omega
      have c4 : (-9223372036854775808 : Int) ≤ (i : Int) + 1 := by omega
      have c5 : (i : Int) + 1 ≤ (9223372036854775807 : Int) := by omega
      rw [decide_eq_true c1, cond_true, decide_eq_true c2, cond_true, decide_eq_true c3, cond_true, x0, x1, x2, y0, y1, y2]
      by_cases he : x = y
      · subst he
        simp only [decide_true, Bool.and_self, Bool.not_true, cond_false, decide_eq_true c4, decide_eq_true c5, cond_true]
        exact ih _ ⟨i + 1, by omega, by omega, by rw [take_snoc hx, take_snoc hy, ht]⟩ (by omega)
      · have hne : ¬ (x.1 = y.1 ∧ x.2.1 = y.2.1 ∧ x.2.2 = y.2.2) := fun h => he (Prod.ext h.1 (Prod.ext h.2.1 h.2.2))
        have hb : (decide (x.1 = y.1) && (decide (x.2.1 = y.2.1) && decide (x.2.2 = y.2.2))) = false := by
          rw [← Bool.not_eq_true, Bool.and_eq_true, Bool.and_eq_true, decide_eq_true_iff, decide_eq_true_iff, decide_eq_true_iff]; exact hne
        rw [hb, Bool.not_false, cond_true]
        have : a ≠ b := fun e => he (by rw [e] at hx; rw [hx] at hy; exact Option.some.inj hy)
        rw [decide_eq_false this]
    · have h0 : i = a.length := by omega
      have c1 : ¬ (i : Int) < ((t3L a).length : Int) := by rw [List.length_map]; omega
      rw [decide_eq_false c1, cond_false]
      subst h0
      rw [decide_eq_true (take_ext hlen ht)]
  · have c0 : ¬ ((t3L a).length : Int) = ((t3L b).length : Int) := by rw [List.length_map, List.length_map]; omega
    rw [decide_eq_false c0, Bool.not_false, cond_true, decide_eq_false (fun e => hlen (by rw [e]))]
/-- a copy -/
theorem ref17_Copy_v (n : Nat) (c : Ch) (hl : c.life.length ≤ 1000000) (hp : c.ps.length ≤ 1000) (he : ∀ p ∈ c.ps, p.es.length ≤ 1000000) (hn : c.ps.length < n) :
    ref17_Copy n c.n c.f c.r.a c.r.c c.r.s c.r.r (evL c.life) (ptL c.ps) = some (c.n, c.f, c.r.a, c.r.c, c.r.s, c.r.r, evL c.life, ptL c.ps) := by
  unfold ref17_Copy ref17_Copy_1
  have e1 : ((evL c.life).length : Int) * 24 ≤ 140737488355328 := by rw [List.length_map]; omega
  rw [decide_eq_true e1, cond_true]
  refine iterF_ind (fun s => ∃ i : Nat, s = ((i : Int), ptL (c.ps.take i)) ∧ i ≤ c.ps.length) (fun s => c.ps.length - s.1.toNat) _ ?_ n _ ⟨0, by simp, by omega⟩ (by simp; omega)
  rintro _ go ⟨i, rfl, hi⟩ ih
  simp only
  unfold ref17_Copy_2
  by_cases hlt : i < c.ps.length
  · obtain ⟨p, hpp⟩ := get_lt hlt
    obtain ⟨g0, g1, g2, g3, g4, g5, g6⟩ := port_cells hpp
    have hee := he p (List.mem_of_getElem? hpp)
    have c1 : (i : Int) < ((ptL c.ps).length : Int) := by rw [List.length_map]; omega
    have c2 : (0 : Int) ≤ (i : Int) := by omega
    have c3 : ((ceL p.es).length : Int) * 24 ≤ 140737488355328 := by rw [List.length_map]; omega
    have c6 : (((ptL (c.ps.take i)).length : Int) + 1) * 72 ≤ 140737488355328 := by rw [List.length_map, List.length_take]; omega
    have c4 : (-9223372036854775808 : Int) ≤ (i : Int) + 1 := by omega
    have c5 : (i : Int) + 1 ≤ (9223372036854775807 : Int) := by omega
    rw [decide_eq_true c1, cond_true, decide_eq_true c2, cond_true, g0, g1, g2, g3, g4, g5, g6, decide_eq_true c3, cond_true, decide_eq_true c6, cond_true, decide_eq_true c4, decide_eq_true c5, Bool.and_self, cond_true]
    refine ih _ ⟨i + 1, ?_, by omega⟩ (by simp only; omega)
    rw [take_snoc hpp]
    simp
  · have h0 : i = c.ps.length := by omega
    have c1 : ¬ (i : Int) < ((ptL c.ps).length : Int) := by rw [List.length_map]; omega
    rw [decide_eq_false c1, cond_false, h0, List.take_length]
end Go.Proofs.Ytjllgiddmeiaoaa
