/-
  What the plain functions of chains give: the carrier and what is in force at a time.
-/
import Derived.Test.YtjllgiddmeiaoaaQ16b
import Derived.Test.YtjllgiddmeiaoaaD8
set_option linter.unusedVariables false
set_option linter.unusedSectionVars false
set_option linter.unusedSimpArgs false
set_option maxRecDepth 100000
namespace Go.Proofs.Ytjllgiddmeiaoaa
open Go Go.Sx Go.Dial.Clm Go.Dial.Lif Go.Dial.Chn
theorem copy_rows (L : Lv) (k : Int) (hk : k = (L.length : Int)) : List.take (List.replicate k.toNat [AV.int 0]).length L ++ List.drop L.length (List.replicate k.toNat [AV.int 0]) = L := by
  subst hk
  simp
theorem at15 : @chain_At_15 = @chain_At_9 := rfl
section
variable (n : Nat) (go0 : chain_At_s0 → Option chain_At_a) (go1 : chain_At_s1 → Option chain_At_a) (c : Ch) (t : Int) (v9 : Lv) (i : Int) (G : List Int) (r : chain_At_a)
  (hi : 0 ≤ i ∧ i ≤ 100) (hG : PInL c G) (hl : G.length ≤ 90) (hP : PIn c (cI v9 i 1)) (hst : t < cI v9 i 0 → r = (withV c G, foL G, 0))
include hi hst
/-- a turn is yielded, and the next happening -/
theorem at_go (w a p kd u : Int) (L X : Lv) (hX : X = L) (hu : u = w) (hgo : cI v9 i 0 ≤ t → go0 (w, i + 1, a, p, kd, L, w, L) = some r) : (bif (decide (t < (cI v9 i 0))) then some (withV c G, foL G, 0) else bif ((decide ((-9223372036854775808) ≤ (i + 1))) && (decide ((i + 1) ≤ 9223372036854775807))) then go0 (u, (i + 1), a, p, kd, X, w, L) else none) = some r := by
  have e10 : (-9223372036854775808 : Int) ≤ i + 1 := by omega
  have e11 : i + 1 ≤ (9223372036854775807 : Int) := by omega
  by_cases h : t < cI v9 i 0
  · rw [decide_eq_true h, cond_true, hst h]
  · rw [decide_eq_false h, cond_false, decide_eq_true e10, decide_eq_true e11, Bool.and_self, cond_true, hX, hu]
    exact hgo (by omega)
include hG hl
theorem at_tail (a p kd : Int) (hgo : cI v9 i 0 ≤ t → go0 (withV c G, i + 1, a, p, kd, foL G, withV c G, foL G) = some r) : wC c (foL G) (fun w => (bif (decide (t < (cI v9 i 0))) then some (withV c G, foL G, 0) else bif ((decide ((-9223372036854775808) ≤ (i + 1))) && (decide ((i + 1) ≤ 9223372036854775807))) then go0 (w, (i + 1), a, p, kd, (List.take (List.replicate (((foL G).length : Int)).toNat [(AV.int 0)]).length (foL G) ++ List.drop (foL G).length (List.replicate (((foL G).length : Int)).toNat [(AV.int 0)])), w, foL G) else none)) = some r :=
  (wthc hG (by omega) _).trans
    (at_go go0 c t v9 i G r hi hst (withV c G) a p kd _ _ _ (copy_rows _ _ rfl) rfl hgo)
include hP
theorem at10 (s h : Int) (hgo : cI v9 i 0 ≤ t → ∀ a p kd, (if s = 1 ∧ h = (portAt c (cI v9 i 1)).c.h then go0 (withV c (cI v9 i 1 :: G), i + 1, a, p, kd, foL (cI v9 i 1 :: G), withV c (cI v9 i 1 :: G), foL (cI v9 i 1 :: G)) else go0 (withV c G, i + 1, a, p, kd, foL G, withV c G, foL G)) = some r) :
    chain_At_10 n go0 go1 c.f (ptL c.ps) t v9 i (foL G) (withV c G) (foL G) s h = some r := by
  obtain ⟨g1, g2, g3⟩ := port_to hP
  unfold chain_At_10
  rw [g3]
  by_cases k1 : s = 1
  · by_cases k2 : h = (portAt c (cI v9 i 1)).c.h
    · simp only [k1, k2, and_self, if_true] at hgo
      rw [decide_eq_true k1, cond_true, decide_eq_true k2, cond_true]
      refine (wthp hG (by omega) hP (fun w => (bif (decide (t < (cI v9 i 0))) then some (withV c G, foL G, 0) else bif ((decide ((-9223372036854775808) ≤ (i + 1))) && (decide ((i + 1) ≤ 9223372036854775807))) then go0 (w, (i + 1), (cI v9 i 0), (cI v9 i 1), 1, (List.take (List.replicate ((((foL G).length : Int) + 1)).toNat [(AV.int 0)]).length (foL G ++ [[(AV.int (cI v9 i 1))]]) ++ List.drop (foL G ++ [[(AV.int (cI v9 i 1))]]).length (List.replicate ((((foL G).length : Int) + 1)).toNat [(AV.int 0)])), w, foL G ++ [[(AV.int (cI v9 i 1))]]) else none))).trans ?_
      refine at_go go0 c t v9 i G r hi hst _ _ _ _ _ _ _ (copy_rows _ _ (by simp)) rfl ?_
      rw [foL_snoc]
      exact fun h => hgo h _ _ _
    · simp only [k2, and_false, if_false] at hgo
      rw [decide_eq_true k1, cond_true, decide_eq_false k2, cond_false]
      exact at_tail go0 c t v9 i G r hi hG hl hst _ _ 2 fun h => hgo h _ _ _
  · simp only [k1, false_and, if_false] at hgo
    rw [decide_eq_false k1, cond_false]
    exact at_tail go0 c t v9 i G r hi hG hl hst _ _ 2 fun h => hgo h _ _ _
theorem at9 (s h : Int) (hgo : cI v9 i 0 ≤ t → ∀ a p kd, (if withV c G = (portAt c (cI v9 i 1)).c.f ∧ s = 1 ∧ h = (portAt c (cI v9 i 1)).c.h then go0 (withV c (cI v9 i 1 :: G), i + 1, a, p, kd, foL (cI v9 i 1 :: G), withV c (cI v9 i 1 :: G), foL (cI v9 i 1 :: G)) else go0 (withV c G, i + 1, a, p, kd, foL G, withV c G, foL G)) = some r) :
    chain_At_9 n go0 go1 c.f (ptL c.ps) t v9 (withV c G) i (foL G) (withV c G) (foL G) s h = some r := by
  obtain ⟨g1, g2, g3⟩ := port_to hP
  unfold chain_At_9
  rw [g1]
  by_cases k : withV c G = (portAt c (cI v9 i 1)).c.f
  · rw [decide_eq_true k, cond_true]
    simp only [k, true_and] at hgo
    rw [k] at hst
    refine at10 n go0 go1 c t v9 i G r hi hG hl hP (by rw [k]; exact hst) s h ?_
    rw [k]
    exact hgo
  · rw [decide_eq_false k, cond_false]
    simp only [k, false_and, if_false] at hgo
    exact at_tail go0 c t v9 i G r hi hG hl hst _ _ 2 fun h => hgo h _ _ _
end
section
variable (n : Nat) (go0 : chain_At_s0 → Option chain_At_a) (go1 : chain_At_s2 → Option chain_At_a) (c : Ch) (t : Int) (v9 : Lv) (i : Int) (G : List Int) (k : Nat) (r : chain_At_a)
  (hi : 0 ≤ i ∧ i ≤ 100) (hG : PInL c G) (hl : G.length ≤ 90)
theorem at_pgo (w a p kd u b d : Int) (L X B : Lv) (hX : X = L) (hu : u = w) (hst : t < a → r = (b, B, 0)) (hgo : a ≤ t → go1 (true, a, p, kd, L, w, L) = some r) : (bif (decide (t < a)) then some (b, B, 0) else go1 (true, a, p, kd, X, u, L)) = some r := by
  by_cases h : t < a
  · rw [decide_eq_true h, cond_true, hst h]
  · rw [decide_eq_false h, cond_false, hX, hu]
    exact hgo (by omega)
include hG hl
theorem at_ptail (a p kd b : Int) (B : Lv) (hst : t < a → r = (b, B, 0)) (hgo : a ≤ t → go1 (true, a, p, kd, foL G, withV c G, foL G) = some r) : wC c (foL G) (fun w => (bif (decide (t < a)) then some (b, B, 0) else go1 (true, a, p, kd, (List.take (List.replicate (((foL G).length : Int)).toNat [(AV.int 0)]).length (foL G) ++ List.drop (foL G).length (List.replicate (((foL G).length : Int)).toNat [(AV.int 0)])), w, foL G))) = some r :=
  (wthc hG (by omega) _).trans
    (at_pgo go1 t r (withV c G) a p kd _ b 0 _ _ B (copy_rows _ _ rfl) rfl hst hgo)
theorem at12_pop (x a p kd b : Int) (B : Lv) (hk : k < (x :: G).length) (hst : t < cI v9 i 0 → r = (b, B, 0)) (hgo : cI v9 i 0 ≤ t → ∀ a p kd, go1 (true, a, p, kd, foL G, withV c G, foL G) = some r) : chain_At_12 n go0 go1 c.f (ptL c.ps) t v9 i (k : Int) true a p kd B b (foL (x :: G)) = some r := by
  have e0 : (k : Int) < ((foL (x :: G)).length : Int) := by rw [foL_len]; omega
  have e5 : (-9223372036854775808 : Int) ≤ ((foL (x :: G)).length : Int) - 1 := by omega
  have e6 : ((foL (x :: G)).length : Int) - 1 ≤ (9223372036854775807 : Int) := by rw [foL_len]; simp; omega
  have e7 : (0 : Int) ≤ ((foL (x :: G)).length : Int) - 1 := by omega
  have e8 : ((foL (x :: G)).length : Int) - 1 < ((foL (x :: G)).length : Int) := by omega
  have e9 : ((foL (x :: G)).length : Int) - 1 ≤ ((foL (x :: G)).length : Int) := by omega
  unfold chain_At_12
  rw [cond_true]
  unfold chain_At_13
  rw [decide_eq_true e0, cond_true, decide_eq_true e5, decide_eq_true e6, Bool.and_self, cond_true, decide_eq_true e7, cond_true, decide_eq_true e8, cond_true, foL_top, foL_drop, decide_eq_true e9, cond_true]
  by_cases h : x = cI v9 i 1
  · rw [decide_eq_true h, cond_true]
    exact at_ptail go1 c t G r hG hl _ _ 3 b B hst fun h => hgo h _ _ _
  · rw [decide_eq_false h, cond_false, cond_true]
    exact at_ptail go1 c t G r hG hl _ _ 4 b B hst fun h => hgo h _ _ _
include hi
theorem at12_end (a p kd : Int) (b : Int) (B : Lv) (hk : ¬ k < G.length) (hgo : go0 (withV c G, i + 1, a, p, kd, B, b, foL G) = some r) : chain_At_12 n go0 go1 c.f (ptL c.ps) t v9 i (k : Int) true a p kd B b (foL G) = some r := by
  have e0 : ¬ (k : Int) < ((foL G).length : Int) := by rw [foL_len]; omega
  have e10 : (-9223372036854775808 : Int) ≤ i + 1 := by omega
  have e11 : i + 1 ≤ (9223372036854775807 : Int) := by omega
  unfold chain_At_12
  rw [cond_true]
  unfold chain_At_13
  rw [decide_eq_false e0, cond_false]
  refine (wth hG (by omega) (fun w => bif ((decide ((-9223372036854775808) ≤ (i + 1))) && (decide ((i + 1) ≤ 9223372036854775807))) then go0 (w, i + 1, a, p, kd, B, b, foL G) else none)).trans ?_
  simp only [decide_eq_true e10, decide_eq_true e11, Bool.and_self, cond_true]
  exact hgo
end
section
variable (n : Nat) (go0 : chain_At_s0 → Option chain_At_a) (c : Ch) (t : Int) (v9 : Lv) (i : Int) (G : List Int) (r : chain_At_a) (h : Hp)
  (hi : 0 ≤ i ∧ i ≤ 100) (hG : PInL c G) (hl : G.length ≤ 90) (hP : PIn c h.p) (hh0 : cI v9 i 0 = h.a) (hh1 : cI v9 i 1 = h.p) (hh2 : cB v9 i 2 = h.b) (hst : t < h.a → r = (withV c G, foL G, 0))
include hi hG hl hh0 hh1 hst
theorem at_back (a p kd : Int) (k : Nat) (hk : G.reverse[k]? = some h.p) (hm : ∀ j, j < k → G.reverse[j]? ≠ some h.p) (hn : 200 < n)
    (hgo : h.a ≤ t → ∀ a p kd, go0 (withV c (popd h.p G), i + 1, a, p, kd, foL (popd h.p G), withV c (popd h.p G), foL (popd h.p G)) = some r) :
    iterF (fun go1 s => chain_At_12 n go0 go1 c.f (ptL c.ps) t v9 i (k : Int) s.1 s.2.1 s.2.2.1 s.2.2.2.1 s.2.2.2.2.1 s.2.2.2.2.2.1 s.2.2.2.2.2.2) n ((true, a, p, kd, foL G, withV c G, foL G) : chain_At_s2) = some r := by
  refine iterF_ind (fun s => ∃ (B G' : List Int) (a p kd : Int), s = (true, a, p, kd, foL G', withV c G', foL G') ∧ G = B ++ G' ∧ popd h.p G' = popd h.p G ∧ (t < h.a → G' = G)) (fun s => s.2.2.2.2.1.length) r ?_ n _ ⟨[], G, a, p, kd, rfl, rfl, rfl, fun _ => rfl⟩ (by rw [foL_len]; omega)
  rintro _ go ⟨B, G', a, p, kd, rfl, hB, hp, hsame⟩ ih
  simp only
  have hin : h.p ∈ G' ↔ k < G'.length := by
    subst hB
    exact pop_in hk hm
  have hG' : PInL c G' := fun x hx => hG x (by rw [hB]; exact List.mem_append_right _ hx)
  have hlen : G'.length ≤ 90 := by rw [hB, List.length_append] at hl; omega
  by_cases hkk : k < G'.length
  · cases G' with
    | nil => simp at hkk
    | cons x G' =>
      have h1 : h.p ∈ x :: G' := hin.2 hkk
      have e1 : popd h.p (x :: G') = popd h.p G' := by rw [popd, if_pos h1]
      refine at12_pop n go0 go c t v9 i G' k r (fun y hy => hG' y (List.mem_cons_of_mem _ hy)) (by simp only [List.length_cons] at hlen; omega) x a p kd _ _ hkk (fun ht => ?_) (fun ht a p kd => ?_)
      · rw [hh0] at ht
        rw [hsame ht]
        exact hst ht
      · rw [hh0] at ht
        refine ih _ ⟨B ++ [x], G', a, p, kd, rfl, by rw [hB]; simp, by rw [← hp, e1], fun h => by omega⟩ ?_
        simp only [foL_len, List.length_cons]; omega
  · have h1 : h.p ∉ G' := fun h => hkk (hin.1 h)
    have e1 : popd h.p G' = G' := popd_no h1
    have ht : h.a ≤ t := by
      rcases Int.lt_or_le t h.a with h2 | h2
      · exact absurd (by rw [hsame h2]; exact List.mem_reverse.1 (List.mem_of_getElem? hk)) h1
      · exact h2
    refine at12_end n go0 go c t v9 i G' k r hi hG' hlen a p kd _ _ hkk ?_
    rw [← e1, hp]
    exact hgo ht _ _ _
include hP hh2
/-- a happening -/
theorem at_round (a p kd : Int) (hL : Life c.life) (h0 : 0 ≤ h.a) (hn : 200 < n) (hnl : c.life.length < n)
    (hgo : h.a ≤ t → ∀ a p kd, go0 (withV c (aftH c G h), i + 1, a, p, kd, foL (aftH c G h), withV c (aftH c G h), foL (aftH c G h)) = some r) :
    iterF (fun go1 s => chain_At_6 n go0 go1 c.f (evL c.life) (ptL c.ps) t v9 (withV c G) i a p kd (foL G) (withV c G) (foL G) s) n (0 : chain_At_s1) = some r := by
  refine iterF_ind (fun s => ∃ j : Nat, s = (j : Int) ∧ j ≤ G.length ∧ ∀ j', j' < j → G.reverse[j']? ≠ some h.p) (fun s => G.length - s.toNat) r ?_ n _ ⟨0, rfl, by omega, fun j hj => by omega⟩ (by omega)
  rintro _ go ⟨j, rfl, hj, hm⟩ ih
  have hP' : PIn c (cI v9 i 1) := by rw [hh1]; exact hP
  have p1 : (0 : Int) ≤ cI v9 i 1 := hP'.1
  have p2 : cI v9 i 1 < ((ptL c.ps).length : Int) := by rw [List.length_map]; exact hP'.2
  have hst' : t < cI v9 i 0 → r = (withV c G, foL G, 0) := by rw [hh0]; exact hst
  have hE : h.b = false → ∀ go1, chain_At_9 n go0 go1 c.f (ptL c.ps) t v9 (withV c G) i (foL G) (withV c G) (foL G) (atL c.life (min h.a 10000000)).s (atL c.life (min h.a 10000000)).h = some r := by
    intro hb go1
    refine at9 n go0 go1 c t v9 i G r hi hG hl hP' hst' _ _ fun ht a p kd => ?_
    rw [hh0] at ht
    have hgo := hgo ht a p kd
    rw [hh1]
    have hnb : ¬ h.b = true := by rw [hb]; decide
    unfold aftH at hgo
    rw [if_neg hnb] at hgo
    by_cases ht : Takes c G h
    · rw [if_pos ht] at hgo
      exact (if_pos ht).trans hgo
    · rw [if_neg ht] at hgo
      exact (if_neg ht).trans hgo
  unfold chain_At_6
  by_cases hlt : j < G.length
  · have c1 : (j : Int) < ((foL G).length : Int) := by rw [foL_len]; omega
    have c2 : (0 : Int) ≤ (j : Int) := by omega
    obtain ⟨x, hx⟩ := get_lt (l := G.reverse) (i := j) (by simpa using hlt)
    rw [decide_eq_true c1, cond_true, decide_eq_true c2, cond_true]
    unfold chain_At_7
    rw [foL_cell hx]
    by_cases he : cI v9 i 1 = x
    · rw [decide_eq_true he, cond_true, decide_eq_true p1, cond_true, decide_eq_true p2, cond_true]
      unfold chain_At_8
      rw [hh2]
      cases hb : h.b with
      | false =>
        rw [Bool.not_false, cond_true, hh0, at_T hL h0 n hnl, Option.bind_some]
        exact hE hb _
      | true =>
        rw [Bool.not_true, cond_false]
        unfold chain_At_11
        have c3 : ¬ (j : Int) < 0 := by omega
        rw [decide_eq_false c3, cond_false]
        have hx' : G.reverse[j]? = some h.p := by rw [hx, ← he, hh1]
        unfold aftH at hgo
        rw [if_pos hb] at hgo
        exact at_back n go0 c t v9 i G r h hi hG hl hh0 hh1 hst a p kd j hx' hm hn hgo
    · have c4 : (-9223372036854775808 : Int) ≤ (j : Int) + 1 := by omega
      have c5 : (j : Int) + 1 ≤ (9223372036854775807 : Int) := by omega
      rw [decide_eq_false he, cond_false, decide_eq_true c4, decide_eq_true c5, Bool.and_self, cond_true]
      refine ih _ ⟨j + 1, by omega, by omega, fun j' hj' => ?_⟩ (by omega)
      rcases Nat.lt_or_ge j' j with h1 | h1
      · exact hm j' h1
      · have : j' = j := by omega
        subst this
        rw [hx, ← hh1]
        exact fun e => he (Option.some.inj e).symm
  · have c1 : ¬ (j : Int) < ((foL G).length : Int) := by rw [foL_len]; omega
    have hnin : h.p ∉ G := fun hin => by
      obtain ⟨q, hq, he⟩ := List.getElem_of_mem (List.mem_reverse.2 hin)
      have hq' : q < G.length := by simpa using hq
      exact hm q (by omega) (by rw [List.getElem?_eq_getElem hq, he])
    rw [decide_eq_false c1, cond_false, decide_eq_true p1, cond_true, decide_eq_true p2, cond_true]
    unfold chain_At_14
    rw [hh2]
    cases hb : h.b with
    | false =>
      rw [Bool.not_false, cond_true, hh0, at_T hL h0 n hnl, Option.bind_some, at15]
      exact hE hb _
    | true =>
      rw [Bool.not_true, cond_false]
      refine at_tail go0 c t v9 i G r hi hG hl hst' _ _ 5 fun ht => ?_
      rw [hh0] at ht ⊢
      have hgo := hgo ht h.a (cI v9 i 1) 5
      unfold aftH at hgo
      rw [if_pos hb, popd_no hnin] at hgo
      exact hgo
end
theorem takeWhile_take {l : List Hp} (hS : SortedH l) {t : Int} {i : Nat} (h1 : ∀ x ∈ l.take i, x.a ≤ t) (h2 : ∀ x, l[i]? = some x → t < x.a) : l.takeWhile (fun h => decide (h.a ≤ t)) = l.take i := by
  induction l generalizing i with
  | nil => simp
  | cons y l ih =>
    cases i with
    | zero =>
      have := h2 y rfl
      rw [List.takeWhile_cons_of_neg (by simp; omega)]; rfl
    | succ i =>
      have := h1 y (by simp)
      rw [List.takeWhile_cons_of_pos (by simpa using this), List.take_succ_cons, ih hS.2 (fun x hx => h1 x (by simp [hx])) (fun x hx => h2 x hx)]
theorem chain_At_v (n : Nat) (c : Ch) (t : Int) (hl : c.life.length < n) (hn : 200 < n) : chain_At n c.n c.f c.r.a c.r.c c.r.s c.r.r (evL c.life) (ptL c.ps) t = some (if ChV c ∧ 0 ≤ t ∧ t ≤ 20000000 then (withV c (forceAt c t), foL (forceAt c t), 0) else (0, [], 170)) := by
  unfold chain_At chain_At_1
  rw [chain_Valid_v n c hl hn, Option.bind_some]
  unfold chain_At_2
  by_cases h : ChV c
  · rw [decide_eq_true h, Bool.not_true, cond_false]
    unfold chain_At_3
    by_cases h0 : 0 ≤ t
    · rw [decide_eq_true h0, cond_true]
      unfold chain_At_4
      by_cases h1 : t ≤ 20000000
      · rw [if_pos ⟨h, h0, h1⟩, decide_eq_true h1, Bool.not_true, cond_false, chain_happenings_v n c h hn, Option.bind_some]
        obtain ⟨H, hH⟩ : ∃ H, H = hps c := ⟨_, rfl⟩
        have hHl : H.length ≤ 16 := by
          have := hps_len c
          have := h.2.2.2.2.2.1
          rw [hH]; omega
        have hS : SortedH H := by rw [hH]; exact sorted_hps c
        have hF : forceAt c t = force c [] (H.takeWhile fun h => decide (h.a ≤ t)) := by rw [hH]; rfl
        rw [← hH]
        refine iterF_ind (fun s => ∃ (i : Nat) (a p kd : Int), s = (withV c (force c [] (H.take i)), (i : Int), a, p, kd, foL (force c [] (H.take i)), withV c (force c [] (H.take i)), foL (force c [] (H.take i))) ∧ i ≤ H.length ∧ ∀ x ∈ H.take i, x.a ≤ t) (fun s => H.length - s.2.1.toNat) _ ?_ n _ ⟨0, 0, 0, 0, rfl, by omega, fun x hx => by simp at hx⟩ (by simp; omega)
        rintro _ go ⟨i, a, p, kd, rfl, hi, hle⟩ ih
        simp only
        unfold chain_At_5
        by_cases hlt : i < H.length
        · obtain ⟨x, hx⟩ := get_lt hlt
          obtain ⟨x0, x1, x2⟩ := hp_cells hx
          have hxm : x ∈ hps c := by rw [← hH]; exact List.mem_of_getElem? hx
          have c1 : (i : Int) < ((hpL H).length : Int) := by rw [List.length_map]; omega
          have c2 : (0 : Int) ≤ (i : Int) := by omega
          have hti : (H.take i).length ≤ i := by rw [List.length_take]; omega
          have hfl := force_len c (H.take i) []
          simp only [List.length_nil] at hfl
          have hPx : PIn c x.p := by
            obtain ⟨k, p, g1, g2, _⟩ := hps_port hxm
            have := (List.getElem?_eq_some_iff.1 g1).1
            rw [g2]
            exact ⟨by omega, by omega⟩
          rw [decide_eq_true c1, cond_true, decide_eq_true c2, cond_true]
          refine at_round n go c t (hpL H) i (force c [] (H.take i)) _ x (by omega) (force_in fun y hy => by rw [← hH]; exact List.mem_of_mem_take hy) (by omega) hPx x0 x1 x2 (fun ht => ?_) a p kd h.1 (hps_ge h hxm).1 hn hl (fun ht a p kd => ?_)
          · rw [hF, takeWhile_take hS hle (fun y hy => by rw [hx] at hy; cases hy; exact ht)]
          · have e1 : H.take (i + 1) = H.take i ++ [x] := take_snoc hx
            have e2 : force c [] (H.take (i + 1)) = aftH c (force c [] (H.take i)) x := by rw [e1]; simp [force]
            rw [← e2]
            refine ih _ ⟨i + 1, a, p, kd, rfl, by omega, fun y hy => ?_⟩ (by simp only; omega)
            rw [e1] at hy
            rcases List.mem_append.1 hy with hy | hy
            · exact hle y hy
            · rw [List.mem_singleton] at hy; rw [hy]; exact ht
        · have h00 : i = H.length := by omega
          have c1 : ¬ (i : Int) < ((hpL H).length : Int) := by rw [List.length_map]; omega
          rw [decide_eq_false c1, cond_false, hF, takeWhile_take hS hle (fun y hy => by rw [h00] at hy; simp at hy)]
      · rw [if_neg (fun h => h1 h.2.2), decide_eq_false h1, Bool.not_false, cond_true]
    · rw [if_neg (fun h => h0 h.2.1), decide_eq_false h0, cond_false]
  · rw [if_neg (fun hh => h hh.1), decide_eq_false h, Bool.not_false, cond_true]
end Go.Proofs.Ytjllgiddmeiaoaa
