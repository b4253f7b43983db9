/-
  What the plain functions of chains give: the turns.
-/
import Derived.Test.YtjllgiddmeiaoaaQ16
set_option linter.unusedVariables false
set_option linter.unusedSectionVars false
set_option linter.unusedSimpArgs false
set_option maxRecDepth 100000
namespace Go.Proofs.Ytjllgiddmeiaoaa
open Go Go.Sx Go.Dial.Clm Go.Dial.Lif Go.Dial.Chn
section
variable (n : Nat) (go0 : chain_Turns_s0 → Option chain_Turns_a) (go1 : chain_Turns_s2 → Option chain_Turns_a) (c : Ch) (v9 : Lv) (i : Int) (O : List Mo) (G : List Int) (k : Nat)
  (hi : 0 ≤ i ∧ i ≤ 100) (hO : O.length ≤ 100) (hG : PInL c G) (hl : G.length ≤ 100)
include hO
theorem tn_pop (a p kd : Int) (L : Lv) (G : List Int) : (bif (decide ((((tnL O).length : Int) + 1) * 24 ≤ 140737488355328)) then go1 (true, ((tnL O) ++ [[(AV.int a), (AV.int p), (AV.int kd)]]), L) else none) = go1 (true, tnL (O ++ [⟨a, p, kd, G⟩]), L) := by
  have e4 : (((tnL O).length : Int) + 1) * 24 ≤ 140737488355328 := by rw [List.length_map]; omega
  rw [decide_eq_true e4, cond_true, tnL_snoc _ _ _ _ G]
include hG hl
theorem tn_ptail (a p kd : Int) : wC c (foL G) (fun _ => (bif (decide ((((tnL O).length : Int) + 1) * 24 ≤ 140737488355328)) then go1 (true, ((tnL O) ++ [[(AV.int a), (AV.int p), (AV.int kd)]]), foL G) else none)) = go1 (true, tnL (O ++ [⟨a, p, kd, G⟩]), foL G) :=
  (wthc hG hl _).trans (tn_pop go1 O hO a p kd _ G)
/-- a port falls, or goes back -/
theorem tn10_pop (x : Int) (hk : k < (x :: G).length) : chain_Turns_10 n go0 go1 c.f (ptL c.ps) v9 i (k : Int) true (tnL O) (foL (x :: G)) =
    go1 (true, tnL (O ++ [⟨cI v9 i 0, x, if x = cI v9 i 1 then 3 else 4, G⟩]), foL G) := by
  have e0 : (k : Int) < ((foL (x :: G)).length : Int) := by rw [foL_len]; omega
  have e5 : (-9223372036854775808 : Int) ≤ ((foL (x :: G)).length : Int) - 1 := by omega
  have e6 : ((foL (x :: G)).length : Int) - 1 ≤ (9223372036854775807 : Int) := by rw [foL_len, List.length_cons]; omega
  have e7 : (0 : Int) ≤ ((foL (x :: G)).length : Int) - 1 := by omega
  have e8 : ((foL (x :: G)).length : Int) - 1 < ((foL (x :: G)).length : Int) := by omega
  have e9 : ((foL (x :: G)).length : Int) - 1 ≤ ((foL (x :: G)).length : Int) := by omega
  unfold chain_Turns_10
  rw [cond_true, decide_eq_true e0, cond_true, decide_eq_true e5, decide_eq_true e6, Bool.and_self, cond_true, decide_eq_true e7, cond_true, decide_eq_true e8, cond_true, foL_top, foL_drop, decide_eq_true e9, cond_true]
  by_cases h : x = cI v9 i 1
  · rw [decide_eq_true h, cond_true, if_pos h]
    exact tn_ptail go1 c O G hO hG hl (cI v9 i 0) x 3
  · rw [decide_eq_false h, cond_false, if_neg h, cond_true]
    exact tn_ptail go1 c O G hO hG hl (cI v9 i 0) x 4
include hi
theorem tn10_end (hk : ¬ k < G.length) : chain_Turns_10 n go0 go1 c.f (ptL c.ps) v9 i (k : Int) true (tnL O) (foL G) = go0 (withV c G, i + 1, tnL O, foL G) := by
  have e0 : ¬ (k : Int) < ((foL G).length : Int) := by rw [foL_len]; omega
  have e10 : (-9223372036854775808 : Int) ≤ i + 1 := by omega
  have e11 : i + 1 ≤ (9223372036854775807 : Int) := by omega
  unfold chain_Turns_10
  rw [cond_true, decide_eq_false e0, cond_false]
  refine (wth hG hl (fun w => bif ((decide ((-9223372036854775808) ≤ (i + 1))) && (decide ((i + 1) ≤ 9223372036854775807))) then go0 (w, i + 1, tnL O, foL G) else none)).trans ?_
  simp only [decide_eq_true e10, decide_eq_true e11, Bool.and_self, cond_true]
end
theorem imin_min (a b : Int) : imin a b = min a b := by unfold imin; omega
theorem at_T {c : Ch} (hL : Life c.life) {a : Int} (h0 : 0 ≤ a) (n : Nat) (hn : c.life.length < n) : life_At n (evL c.life) (imin a 10000000) = some ((atL c.life (min a 10000000)).s, (atL c.life (min a 10000000)).h, (atL c.life (min a 10000000)).e, (atL c.life (min a 10000000)).t, 0) := by
  have hok : OkAt c.life (min a 10000000) := ⟨hL, by omega, by omega⟩
  rw [life_At_v n c.life _ hn, imin_min]
  simp only [atT, atR, if_pos hok]
theorem tn12 : @chain_Turns_12 = @chain_Turns_7 := rfl
section
variable (n : Nat) (go0 : chain_Turns_s0 → Option chain_Turns_a) (c : Ch) (v9 : Lv) (i : Int) (O : List Mo) (G : List Int) (r : chain_Turns_a) (h : Hp)
  (hi : 0 ≤ i ∧ i ≤ 100) (hO : O.length + G.length ≤ 90) (hG : PInL c G) (hl : G.length ≤ 90) (hP : PIn c h.p) (hh0 : cI v9 i 0 = h.a) (hh1 : cI v9 i 1 = h.p) (hh2 : cB v9 i 2 = h.b)
include hi hO hG hl hh0 hh1
theorem tn_back (k : Nat) (hk : G.reverse[k]? = some h.p) (hm : ∀ j, j < k → G.reverse[j]? ≠ some h.p) (hn : 200 < n)
    (hgo : go0 (withV c (popd h.p G), i + 1, tnL (O ++ pops h.a h.p G), foL (popd h.p G)) = some r) :
    iterF (fun go1 s => chain_Turns_10 n go0 go1 c.f (ptL c.ps) v9 i (k : Int) s.1 s.2.1 s.2.2) n ((true, tnL O, foL G) : chain_Turns_s2) = some r := by
  refine iterF_ind (fun s => ∃ (B G' : List Int) (O' : List Mo), s = (true, tnL O', foL G') ∧ G = B ++ G' ∧ popd h.p G' = popd h.p G ∧ O' ++ pops h.a h.p G' = O ++ pops h.a h.p G ∧ O'.length + G'.length ≤ 90) (fun s => s.2.2.length) r ?_ n _ ⟨[], G, O, rfl, rfl, rfl, rfl, hO⟩ (by rw [foL_len]; omega)
  rintro _ go ⟨B, G', O', rfl, hB, hp, ho, hlen⟩ ih
  simp only
  have hin : h.p ∈ G' ↔ k < G'.length := by
    subst hB
    exact pop_in hk hm
  have hG' : PInL c G' := fun x hx => hG x (by rw [hB]; exact List.mem_append_right _ hx)
  by_cases hkk : k < G'.length
  · cases G' with
    | nil => simp at hkk
    | cons x G' =>
      rw [tn10_pop n go0 go c v9 i O' G' k (by omega) (fun y hy => hG' y (List.mem_cons_of_mem _ hy)) (by simp only [List.length_cons] at hlen; omega) x hkk]
      have h1 : h.p ∈ x :: G' := hin.2 hkk
      have e1 : popd h.p (x :: G') = popd h.p G' := by rw [popd, if_pos h1]
      have e2 : pops h.a h.p (x :: G') = ⟨h.a, x, if x = h.p then 3 else 4, G'⟩ :: pops h.a h.p G' := by rw [pops, if_pos h1]
      rw [hh0, hh1]
      refine ih _ ⟨B ++ [x], G', O' ++ [⟨h.a, x, if x = h.p then 3 else 4, G'⟩], rfl, by rw [hB]; simp, by rw [← hp, e1], by rw [← ho, e2]; simp, by simp only [List.length_cons, List.length_append, List.length_nil] at hlen ⊢; omega⟩ ?_
      simp only [foL_len, List.length_cons]; omega
  · have h1 : h.p ∉ G' := fun h => hkk (hin.1 h)
    have e1 : popd h.p G' = G' := popd_no h1
    have e2 : pops h.a h.p G' = [] := by
      cases G' with
      | nil => rfl
      | cons x G' => rw [pops, if_neg h1]
    rw [tn10_end n go0 go c v9 i O' G' k hi (by omega) hG' (by omega) hkk]
    rw [e2, List.append_nil] at ho
    rw [ho, ← e1, hp]
    exact hgo
include hP hh2
/-- a happening -/
theorem tn_round (hL : Life c.life) (h0 : 0 ≤ h.a) (hn : 200 < n) (hnl : c.life.length < n)
    (hgo : go0 (withV c (aftH c G h), i + 1, tnL (O ++ momsH c G h), foL (aftH c G h)) = some r) :
    iterF (fun go1 s => chain_Turns_4 n go0 go1 c.f (evL c.life) (ptL c.ps) v9 (withV c G) i (tnL O) (foL G) s) n (0 : chain_Turns_s1) = some r := by
  refine iterF_ind (fun s => ∃ j : Nat, s = (j : Int) ∧ j ≤ G.length ∧ ∀ j', j' < j → G.reverse[j']? ≠ some h.p) (fun s => G.length - s.toNat) r ?_ n _ ⟨0, rfl, by omega, fun j hj => by omega⟩ (by omega)
  rintro _ go ⟨j, rfl, hj, hm⟩ ih
  have hP' : PIn c (cI v9 i 1) := by rw [hh1]; exact hP
  have p1 : (0 : Int) ≤ cI v9 i 1 := hP'.1
  have p2 : cI v9 i 1 < ((ptL c.ps).length : Int) := by rw [List.length_map]; exact hP'.2
  -- a port that takes effect or misses
  have hE : h.b = false → ∀ go1, chain_Turns_7 n go0 go1 c.f (ptL c.ps) v9 (withV c G) i (tnL O) (foL G) (atL c.life (min h.a 10000000)).s (atL c.life (min h.a 10000000)).h = some r := by
    intro hb go1
    rw [tn7 n go0 go1 c v9 i O G hi (by omega) hG (by omega) hP', hh0, hh1]
    have hnb : ¬ h.b = true := by rw [hb]; decide
    unfold aftH momsH at hgo
    rw [if_neg hnb, if_neg hnb] at hgo
    by_cases ht : Takes c G h
    · rw [if_pos ht, if_pos ht] at hgo
      exact (if_pos ht).trans hgo
    · rw [if_neg ht, if_neg ht] at hgo
      exact (if_neg ht).trans hgo
  unfold chain_Turns_4
  by_cases hlt : j < G.length
  · have c1 : (j : Int) < ((foL G).length : Int) := by rw [foL_len]; omega
    have c2 : (0 : Int) ≤ (j : Int) := by omega
    obtain ⟨x, hx⟩ := get_lt (l := G.reverse) (i := j) (by simpa using hlt)
    rw [decide_eq_true c1, cond_true, decide_eq_true c2, cond_true]
    unfold chain_Turns_5
    rw [foL_cell hx]
    by_cases he : cI v9 i 1 = x
    · rw [decide_eq_true he, cond_true, decide_eq_true p1, cond_true, decide_eq_true p2, cond_true]
      unfold chain_Turns_6
      rw [hh2]
      cases hb : h.b with
      | false =>
        rw [Bool.not_false, cond_true, hh0, at_T hL h0 n hnl, Option.bind_some]
        exact hE hb _
      | true =>
        rw [Bool.not_true, cond_false]
        unfold chain_Turns_9
        have c3 : ¬ (j : Int) < 0 := by omega
        rw [decide_eq_false c3, cond_false]
        have hx' : G.reverse[j]? = some h.p := by rw [hx, ← he, hh1]
        have hin : h.p ∈ G := List.mem_reverse.1 (List.mem_of_getElem? hx')
        unfold aftH momsH at hgo
        rw [if_pos hb, if_pos hb, if_pos hin] at hgo
        exact tn_back n go0 c v9 i O G r h hi hO hG hl hh0 hh1 j hx' hm hn hgo
    · have c4 : (-9223372036854775808 : Int) ≤ (j : Int) + 1 := by omega
      have c5 : (j : Int) + 1 ≤ (9223372036854775807 : Int) := by omega
      rw [decide_eq_false he, cond_false, decide_eq_true c4, decide_eq_true c5, Bool.and_self, cond_true]
      refine ih _ ⟨j + 1, by omega, by omega, fun j' hj' => ?_⟩ (by omega)
      rcases Nat.lt_or_ge j' j with h1 | h1
      · exact hm j' h1
      · have : j' = j := by omega
        subst this
        rw [hx, ← hh1]
        exact fun e => he (Option.some.inj e).symm
  · have c1 : ¬ (j : Int) < ((foL G).length : Int) := by rw [foL_len]; omega
    have hnin : h.p ∉ G := fun hin => by
      obtain ⟨q, hq, he⟩ := List.getElem_of_mem (List.mem_reverse.2 hin)
      have hq' : q < G.length := by simpa using hq
      exact hm q (by omega) (by rw [List.getElem?_eq_getElem hq, he])
    rw [decide_eq_false c1, cond_false, decide_eq_true p1, cond_true, decide_eq_true p2, cond_true]
    unfold chain_Turns_11
    rw [hh2]
    cases hb : h.b with
    | false =>
      rw [Bool.not_false, cond_true, hh0, at_T hL h0 n hnl, Option.bind_some, tn12]
      exact hE hb _
    | true =>
      rw [Bool.not_true, cond_false]
      unfold aftH momsH at hgo
      rw [if_pos hb, if_pos hb, if_neg hnin, popd_no hnin, ← hh0, ← hh1] at hgo
      rw [← hgo]
      exact tn_tail go0 c i O G hi (by omega) hG (by omega) _ _ 5
end
theorem moms_app {c : Ch} : ∀ (A B : List Hp) (G : List Int), moms c G (A ++ B) = moms c G A ++ moms c (force c G A) B
  | [], B, G => rfl
  | h :: A, B, G => by
    show momsH c G h ++ moms c (aftH c G h) (A ++ B) = _
    rw [moms_app A B]
    simp [moms, force]
theorem force_in {c : Ch} {l : List Hp} (hl : ∀ h ∈ l, h ∈ hps c) : PInL c (force c [] l) := fun x hx => by
  rcases force_mem hx with h | ⟨h, h1, h2⟩
  · cases h
  · obtain ⟨k, p, g1, g2, _⟩ := hps_port (hl h h1)
    have := (List.getElem?_eq_some_iff.1 g1).1
    rw [← h2, g2]
    exact ⟨by omega, by omega⟩
theorem aftH_len (c : Ch) (G : List Int) (h : Hp) : (aftH c G h).length ≤ G.length + 1 := by
  unfold aftH
  have := popd_len h.p G
  split
  · omega
  · split <;> simp
theorem force_len (c : Ch) : ∀ (l : List Hp) (G : List Int), (force c G l).length ≤ G.length + l.length
  | [], G => by simp [force]
  | h :: l, G => by
    have h1 := force_len c l (aftH c G h)
    have h2 := aftH_len c G h
    show (force c (aftH c G h) l).length ≤ _
    simp only [List.length_cons]; omega
theorem hps_ge {c : Ch} (h : ChV c) {x : Hp} (hx : x ∈ hps c) : 0 ≤ x.a ∧ x.a ≤ 23000000 := by
  obtain ⟨k, p, h1, h2, y, h3, h4⟩ := hps_port hx
  have hv := (ptsV_all h.2.2.2.2.2.2 p (List.mem_of_getElem? h1)).2
  have g1 := timeline_ge hv y h3
  have g2 := timeline_le hv y h3
  have g3 := hv.2.1
  unfold ClV at g3
  unfold hpOf at h4
  split at h4
  · cases h4; simp only; omega
  · cases h4
theorem hp_cells {H : List Hp} {i : Nat} {h : Hp} (hx : H[i]? = some h) : cI (hpL H) (i : Int) 0 = h.a ∧ cI (hpL H) (i : Int) 1 = h.p ∧ cB (hpL H) (i : Int) 2 = h.b := by
  have hc : ∀ k, cA (hpL H) (i : Int) k = (hpR h).getD k (.int 0) := fun k => cA_map (by simpa using hx)
  refine ⟨?_, ?_, ?_⟩ <;> simp only [cI, cB, hc] <;> rfl
theorem chain_Turns_v (n : Nat) (c : Ch) (hl : c.life.length < n) (hn : 200 < n) : chain_Turns n c.n c.f c.r.a c.r.c c.r.s c.r.r (evL c.life) (ptL c.ps) = some (if ChV c then (tnL (turnsV c), 0) else ([], 170)) := by
  unfold chain_Turns chain_Turns_1
  rw [chain_Valid_v n c hl hn, Option.bind_some]
  unfold chain_Turns_2
  by_cases h : ChV c
  · rw [if_pos h, decide_eq_true h, Bool.not_true, cond_false, chain_happenings_v n c h hn, Option.bind_some]
    obtain ⟨H, hH⟩ : ∃ H, H = hps c := ⟨_, rfl⟩
    have hHl : H.length ≤ 16 := by
      have := hps_len c
      have := h.2.2.2.2.2.1
      rw [hH]; omega
    have hT : turnsV c = moms c [] H := by rw [hH]; rfl
    rw [← hH]
    refine iterF_ind (fun s => ∃ i : Nat, s = (withV c (force c [] (H.take i)), (i : Int), tnL (moms c [] (H.take i)), foL (force c [] (H.take i))) ∧ i ≤ H.length) (fun s => H.length - s.2.1.toNat) _ ?_ n _ ⟨0, rfl, by omega⟩ (by simp; omega)
    rintro _ go ⟨i, rfl, hi⟩ ih
    simp only
    unfold chain_Turns_3
    by_cases hlt : i < H.length
    · obtain ⟨x, hx⟩ := get_lt hlt
      obtain ⟨x0, x1, x2⟩ := hp_cells hx
      have hxm : x ∈ hps c := by rw [← hH]; exact List.mem_of_getElem? hx
      have c1 : (i : Int) < ((hpL H).length : Int) := by rw [List.length_map]; omega
      have c2 : (0 : Int) ≤ (i : Int) := by omega
      have hti : (H.take i).length ≤ i := by rw [List.length_take]; omega
      have hfl := force_len c (H.take i) []
      have hml := moms_len c (H.take i) []
      simp only [List.length_nil] at hfl hml
      have hPx : PIn c x.p := by
        obtain ⟨k, p, g1, g2, _⟩ := hps_port hxm
        have := (List.getElem?_eq_some_iff.1 g1).1
        rw [g2]
        exact ⟨by omega, by omega⟩
      rw [decide_eq_true c1, cond_true, decide_eq_true c2, cond_true]
      refine tn_round n go c (hpL H) i (moms c [] (H.take i)) (force c [] (H.take i)) _ x (by omega) (by omega) (force_in fun y hy => by rw [← hH]; exact List.mem_of_mem_take hy) (by omega) hPx x0 x1 x2 h.1 (hps_ge h hxm).1 hn hl ?_
      have e1 : H.take (i + 1) = H.take i ++ [x] := take_snoc hx
      have e2 : force c [] (H.take (i + 1)) = aftH c (force c [] (H.take i)) x := by rw [e1]; simp [force]
      have e3 : moms c [] (H.take (i + 1)) = moms c [] (H.take i) ++ momsH c (force c [] (H.take i)) x := by rw [e1, moms_app]; simp [moms]
      rw [← e2, ← e3]
      exact ih _ ⟨i + 1, rfl, by omega⟩ (by simp only; omega)
    · have h00 : i = H.length := by omega
      have c1 : ¬ (i : Int) < ((hpL H).length : Int) := by rw [List.length_map]; omega
      rw [decide_eq_false c1, cond_false, hT, h00, List.take_length]
  · rw [if_neg h, decide_eq_false h, Bool.not_false, cond_true]
end Go.Proofs.Ytjllgiddmeiaoaa
