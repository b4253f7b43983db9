/-
  What the plain functions of chains give: which carrier has the number when.
-/
import Derived.Test.YtjllgiddmeiaoaaQ17
import Derived.Test.YtjllgiddmeiaoaaD9
set_option linter.unusedVariables false
set_option linter.unusedSectionVars false
set_option linter.unusedSimpArgs false
set_option maxRecDepth 100000
namespace Go.Proofs.Ytjllgiddmeiaoaa
open Go Go.Sx Go.Dial.Clm Go.Dial.Lif Go.Dial.Chn
abbrev hdR (h : Hd) : List AV := [.int h.c, .int h.f, .int h.t]
def hdL (o : List Hd) : Lv := o.reverse.map hdR
theorem hdL_len (o : List Hd) : (hdL o).length = o.length := by simp [hdL]
theorem hdL_snoc (o : List Hd) (c f t : Int) : hdL o ++ [[AV.int c, AV.int f, AV.int t]] = hdL (⟨c, f, t⟩ :: o) := by simp [hdL]
theorem hdL_cons (o : List Hd) (x : Hd) : hdL (x :: o) = hdL o ++ [hdR x] := by simp [hdL]
theorem hdL_nat (o : List Hd) (x : Hd) : ((((hdL (x :: o)).length : Nat) : Int) - 1).toNat = (hdL o).length := by
  rw [hdL_len, hdL_len]; simp
theorem hdL_drop (o : List Hd) (x : Hd) : List.take ((((hdL (x :: o)).length : Nat) : Int) - 1).toNat (hdL (x :: o)) = hdL o := by
  rw [hdL_nat, hdL_cons]; simp
theorem hdL_at (o : List Hd) (x : Hd) (k : Nat) : cA (hdL (x :: o)) (((hdL (x :: o)).length : Int) - 1) k = (hdR x).getD k (.int 0) := by
  unfold cA
  rw [hdL_nat, hdL_cons]; simp [List.getD]
theorem hdL_from (o : List Hd) (x : Hd) : cI (hdL (x :: o)) (((hdL (x :: o)).length : Int) - 1) 1 = x.f := by simp only [cI, hdL_at]; rfl
theorem hdL_who (o : List Hd) (x : Hd) : cI (hdL (x :: o)) (((hdL (x :: o)).length : Int) - 1) 0 = x.c := by simp only [cI, hdL_at]; rfl
theorem hdL_to (o : List Hd) (x : Hd) (a : Int) : List.modify (hdL (x :: o)) ((((hdL (x :: o)).length : Nat) : Int) - 1).toNat (fun r => r.set 2 (AV.int a)) = hdL (⟨x.c, x.f, a⟩ :: o) := by
  rw [hdL_nat, hdL_cons, hdL_cons, modify_set (x := hdR x) (by simp)]
  rw [List.set_append_right _ _ (Nat.le_refl _)]
  simp
/-- a turn is put among the spells, as it is reckoned -/
def hK (o : Lv) (a w : Int) {α : Type} (k : Lv → Option α) : Option α :=
  bif ((decide ((-9223372036854775808) ≤ ((o.length : Int) - 1))) && (decide (((o.length : Int) - 1) ≤ 9223372036854775807))) then bif (decide (0 ≤ ((o.length : Int) - 1))) then bif (decide (((o.length : Int) - 1) < (o.length : Int))) then (bif (decide ((cI o ((o.length : Int) - 1) 1) = a)) then bif (decide (((o.length : Int) - 1) ≤ (o.length : Int))) then bif ((decide ((-9223372036854775808) ≤ (((o.length : Int) - 1) - 1))) && (decide ((((o.length : Int) - 1) - 1) ≤ 9223372036854775807))) then (bif (decide ((((o.length : Int) - 1) - 1) < 0)) then bif (decide (((((List.take (((o.length : Int) - 1)).toNat o).length : Int) + 1) * 24) ≤ 140737488355328)) then k ((List.take (((o.length : Int) - 1)).toNat o) ++ [[(AV.int w), (AV.int a), (AV.int 0)]]) else none
  else bif (decide (0 ≤ (((o.length : Int) - 1) - 1))) then bif (decide ((((o.length : Int) - 1) - 1) < ((List.take (((o.length : Int) - 1)).toNat o).length : Int))) then (bif (!(decide ((cI (List.take (((o.length : Int) - 1)).toNat o) (((o.length : Int) - 1) - 1) 0) = w))) then bif (decide (((((List.take (((o.length : Int) - 1)).toNat o).length : Int) + 1) * 24) ≤ 140737488355328)) then k ((List.take (((o.length : Int) - 1)).toNat o) ++ [[(AV.int w), (AV.int a), (AV.int 0)]]) else none
  else k (List.take (((o.length : Int) - 1)).toNat o)) else none else none) else none else none
  else (bif (decide (((o.length : Int) - 1) < 0)) then bif (decide ((((o.length : Int) + 1) * 24) ≤ 140737488355328)) then k ((List.modify o (((o.length : Int) - 1)).toNat (fun r => r.set 2 (AV.int a))) ++ [[(AV.int w), (AV.int a), (AV.int 0)]]) else none
  else (bif (!(decide ((cI (List.modify o (((o.length : Int) - 1)).toNat (fun r => r.set 2 (AV.int a))) ((o.length : Int) - 1) 0) = w))) then bif (decide ((((o.length : Int) + 1) * 24) ≤ 140737488355328)) then k ((List.modify o (((o.length : Int) - 1)).toNat (fun r => r.set 2 (AV.int a))) ++ [[(AV.int w), (AV.int a), (AV.int 0)]]) else none
  else k (List.modify o (((o.length : Int) - 1)).toNat (fun r => r.set 2 (AV.int a)))))) else none else none else none
theorem hK_v {o : List Hd} (ho : o ≠ []) (hl : o.length ≤ 200) (a w : Int) {α : Type} (k : Lv → Option α) : hK (hdL o) a w k = k (hdL (holdW o a w)) := by
  cases o with
  | nil => exact absurd rfl ho
  | cons x r =>
    have hL : ((hdL (x :: r)).length : Int) = (r.length : Int) + 1 := by rw [hdL_len]; rfl
    have e1 : (-9223372036854775808 : Int) ≤ ((hdL (x :: r)).length : Int) - 1 := by omega
    have e2 : ((hdL (x :: r)).length : Int) - 1 ≤ (9223372036854775807 : Int) := by simp only [List.length_cons] at hl; omega
    have e3 : (0 : Int) ≤ ((hdL (x :: r)).length : Int) - 1 := by omega
    have e4 : ((hdL (x :: r)).length : Int) - 1 < ((hdL (x :: r)).length : Int) := by omega
    have e5 : ((hdL (x :: r)).length : Int) - 1 ≤ ((hdL (x :: r)).length : Int) := by omega
    have e6 : (-9223372036854775808 : Int) ≤ (((hdL (x :: r)).length : Int) - 1) - 1 := by omega
    have e7 : (((hdL (x :: r)).length : Int) - 1) - 1 ≤ (9223372036854775807 : Int) := by simp only [List.length_cons] at hl; omega
    have e8 : (((hdL r).length : Int) + 1) * 24 ≤ 140737488355328 := by rw [hdL_len]; simp only [List.length_cons] at hl; omega
    have e9 : (((hdL (x :: r)).length : Int) + 1) * 24 ≤ 140737488355328 := by rw [hdL_len]; simp only [List.length_cons] at hl ⊢; omega
    have e10 : ¬ ((hdL (x :: r)).length : Int) - 1 < 0 := by omega
    unfold hK
    rw [decide_eq_true e1, decide_eq_true e2, Bool.and_self, cond_true, decide_eq_true e3, cond_true, decide_eq_true e4, cond_true, hdL_from, hdL_drop, hdL_to]
    unfold holdW holdO
    by_cases h : x.f = a
    · rw [decide_eq_true h, cond_true, decide_eq_true e5, cond_true, decide_eq_true e6, decide_eq_true e7, Bool.and_self, cond_true]
      simp only [if_pos h]
      cases r with
      | nil =>
        have e11 : (((hdL [x]).length : Int) - 1) - 1 < 0 := by rw [hdL_len]; simp
        rw [decide_eq_true e11, cond_true, decide_eq_true e8, cond_true, hdL_snoc]
      | cons y r =>
        have hL2 : (((hdL (x :: y :: r)).length : Int) - 1) - 1 = ((hdL (y :: r)).length : Int) - 1 := by rw [hdL_len, hdL_len]; simp only [List.length_cons]; omega
        have hL3 : ((hdL (y :: r)).length : Int) = (r.length : Int) + 1 := by rw [hdL_len]; rfl
        have e11 : ¬ ((hdL (y :: r)).length : Int) - 1 < 0 := by omega
        have e12 : (0 : Int) ≤ ((hdL (y :: r)).length : Int) - 1 := by omega
        have e13 : ((hdL (y :: r)).length : Int) - 1 < ((hdL (y :: r)).length : Int) := by omega
        rw [hL2, decide_eq_false e11, cond_false, decide_eq_true e12, cond_true, decide_eq_true e13, cond_true, hdL_who, decide_eq_true e8, cond_true, hdL_snoc]
        by_cases hw : y.c = w
        · simp only [if_pos hw]
          rw [decide_eq_true hw, Bool.not_true, cond_false]
        · simp only [if_neg hw]
          rw [decide_eq_false hw, Bool.not_false, cond_true]
    · rw [decide_eq_false h, cond_false, decide_eq_false e10, cond_false, decide_eq_true e9, cond_true, hdL_snoc]
      simp only [if_neg h]
      have hq := hdL_who r ⟨x.c, x.f, a⟩
      have hL4 : ((hdL (⟨x.c, x.f, a⟩ :: r)).length : Int) = ((hdL (x :: r)).length : Int) := by rw [hdL_len, hdL_len]; rfl
      rw [hL4] at hq
      rw [hq]
      by_cases hw : x.c = w
      · simp only [if_pos hw]
        rw [decide_eq_true hw, Bool.not_true, cond_false]
      · simp only [if_neg hw]
        rw [decide_eq_false hw, Bool.not_false, cond_true]
section
variable (n : Nat) (go0 : chain_Holders_s0 → Option chain_Holders_a) (go1 : chain_Holders_s1 → Option chain_Holders_a) (c : Ch) (v9 : Lv) (i : Int) (o : List Hd) (G : List Int)
  (hi : 0 ≤ i ∧ i ≤ 100) (ho : o ≠ [] ∧ o.length ≤ 190) (hG : PInL c G) (hl : G.length ≤ 100) (hP : PIn c (cI v9 i 1))
include hi ho
theorem hd_go (w a : Int) (L : Lv) : hK (hdL o) a w (fun o' => bif ((decide ((-9223372036854775808) ≤ (i + 1))) && (decide ((i + 1) ≤ 9223372036854775807))) then go0 (w, (i + 1), o', L) else none) = go0 (w, i + 1, hdL (holdW o a w), L) := by
  have e10 : (-9223372036854775808 : Int) ≤ i + 1 := by omega
  have e11 : i + 1 ≤ (9223372036854775807 : Int) := by omega
  rw [hK_v ho.1 (by omega), decide_eq_true e10, decide_eq_true e11, Bool.and_self, cond_true]
include hG hl
theorem hd_tail : wC c (foL G) (fun w => hK (hdL o) (cI v9 i 0) w (fun o' => bif ((decide ((-9223372036854775808) ≤ (i + 1))) && (decide ((i + 1) ≤ 9223372036854775807))) then go0 (w, (i + 1), o', foL G) else none)) = go0 (withV c G, i + 1, hdL (holdW o (cI v9 i 0) (withV c G)), foL G) :=
  (wthc hG hl _).trans (hd_go go0 i o hi ho _ _ _)
include hP
theorem hd9 (h : Int) : chain_Holders_9 n go0 go1 c.f (ptL c.ps) v9 i (hdL o) (foL G) h =
    if h = (portAt c (cI v9 i 1)).c.h then go0 (withV c (cI v9 i 1 :: G), i + 1, hdL (holdW o (cI v9 i 0) (withV c (cI v9 i 1 :: G))), foL (cI v9 i 1 :: G)) else go0 (withV c G, i + 1, hdL (holdW o (cI v9 i 0) (withV c G)), foL G) := by
  obtain ⟨g1, g2, g3⟩ := port_to hP
  unfold chain_Holders_9
  rw [g3]
  by_cases k2 : h = (portAt c (cI v9 i 1)).c.h
  · rw [if_pos k2, decide_eq_true k2, cond_true]
    refine (wthp hG hl hP (fun w => hK (hdL o) (cI v9 i 0) w (fun o' => bif ((decide ((-9223372036854775808) ≤ (i + 1))) && (decide ((i + 1) ≤ 9223372036854775807))) then go0 (w, (i + 1), o', foL G ++ [[AV.int (cI v9 i 1)]]) else none))).trans ?_
    refine (hd_go go0 i o hi ho _ _ _).trans ?_
    rw [foL_snoc]
  · rw [if_neg k2, decide_eq_false k2, cond_false]
    exact hd_tail go0 c v9 i o G hi ho hG hl
theorem hd7 (s h : Int) : chain_Holders_7 n go0 go1 c.f (ptL c.ps) v9 (withV c G) i (hdL o) (foL G) s h =
    if withV c G = (portAt c (cI v9 i 1)).c.f ∧ s = 1 ∧ h = (portAt c (cI v9 i 1)).c.h then go0 (withV c (cI v9 i 1 :: G), i + 1, hdL (holdW o (cI v9 i 0) (withV c (cI v9 i 1 :: G))), foL (cI v9 i 1 :: G)) else go0 (withV c G, i + 1, hdL (holdW o (cI v9 i 0) (withV c G)), foL G) := by
  obtain ⟨g1, g2, g3⟩ := port_to hP
  unfold chain_Holders_7
  rw [g1]
  by_cases k : withV c G = (portAt c (cI v9 i 1)).c.f
  · rw [decide_eq_true k, cond_true]
    unfold chain_Holders_8
    by_cases k1 : s = 1
    · rw [decide_eq_true k1, cond_true, hd9 n go0 go1 c v9 i o G hi ho hG hl hP]
      simp only [k, k1, true_and]
    · rw [decide_eq_false k1, cond_false, if_neg (fun h => k1 h.2.1)]
      exact hd_tail go0 c v9 i o G hi ho hG hl
  · rw [decide_eq_false k, cond_false, if_neg (fun h => k h.1)]
    exact hd_tail go0 c v9 i o G hi ho hG hl
end
section
variable (n : Nat) (go0 : chain_Holders_s0 → Option chain_Holders_a) (go1 : chain_Holders_s2 → Option chain_Holders_a) (c : Ch) (v9 : Lv) (i : Int) (o : List Hd) (G : List Int) (k : Nat)
  (hi : 0 ≤ i ∧ i ≤ 100) (ho : o ≠ [] ∧ o.length ≤ 190) (hG : PInL c G) (hl : G.length ≤ 100)
include ho hG hl
theorem hd_ptail : wC c (foL G) (fun w => hK (hdL o) (cI v9 i 0) w (fun o' => go1 (true, o', foL G))) = go1 (true, hdL (holdW o (cI v9 i 0) (withV c G)), foL G) :=
  (wthc hG hl _).trans (hK_v ho.1 (by omega) _ _ _)
theorem hd10_pop (x : Int) (hk : k < (x :: G).length) : chain_Holders_17 n go0 go1 c.f (ptL c.ps) v9 i (k : Int) true (hdL o) (foL (x :: G)) =
    go1 (true, hdL (holdW o (cI v9 i 0) (withV c G)), foL G) := by
  have e0 : (k : Int) < ((foL (x :: G)).length : Int) := by rw [foL_len]; omega
  have e5 : (-9223372036854775808 : Int) ≤ ((foL (x :: G)).length : Int) - 1 := by omega
  have e6 : ((foL (x :: G)).length : Int) - 1 ≤ (9223372036854775807 : Int) := by rw [foL_len, List.length_cons]; omega
  have e7 : (0 : Int) ≤ ((foL (x :: G)).length : Int) - 1 := by omega
  have e8 : ((foL (x :: G)).length : Int) - 1 < ((foL (x :: G)).length : Int) := by omega
  have e9 : ((foL (x :: G)).length : Int) - 1 ≤ ((foL (x :: G)).length : Int) := by omega
  unfold chain_Holders_17
  rw [cond_true]
  unfold chain_Holders_18
  rw [decide_eq_true e0, cond_true, decide_eq_true e5, decide_eq_true e6, Bool.and_self, cond_true, decide_eq_true e7, cond_true, decide_eq_true e8, cond_true]
  unfold chain_Holders_19
  rw [decide_eq_true e9, cond_true, foL_top, foL_drop]
  by_cases h : x = cI v9 i 1
  · rw [decide_eq_true h, cond_true]
    unfold chain_Holders_20
    rw [foL_drop]
    exact hd_ptail go1 c v9 i o G ho hG hl
  · rw [decide_eq_false h, cond_false]
    unfold chain_Holders_20
    rw [foL_drop]
    exact hd_ptail go1 c v9 i o G ho hG hl
include hi
theorem hd10_end (hk : ¬ k < G.length) : chain_Holders_17 n go0 go1 c.f (ptL c.ps) v9 i (k : Int) true (hdL o) (foL G) = go0 (withV c G, i + 1, hdL o, foL G) := by
  have e0 : ¬ (k : Int) < ((foL G).length : Int) := by rw [foL_len]; omega
  have e10 : (-9223372036854775808 : Int) ≤ i + 1 := by omega
  have e11 : i + 1 ≤ (9223372036854775807 : Int) := by omega
  unfold chain_Holders_17
  rw [cond_true]
  unfold chain_Holders_18
  rw [decide_eq_false e0, cond_false]
  refine (wth hG hl (fun w => bif ((decide ((-9223372036854775808) ≤ (i + 1))) && (decide ((i + 1) ≤ 9223372036854775807))) then go0 (w, i + 1, hdL o, foL G) else none)).trans ?_
  simp only [decide_eq_true e10, decide_eq_true e11, Bool.and_self, cond_true]
end
theorem hd23 : @chain_Holders_23 = @chain_Holders_7 := rfl
section
variable (n : Nat) (go0 : chain_Holders_s0 → Option chain_Holders_a) (c : Ch) (v9 : Lv) (i : Int) (o : List Hd) (G : List Int) (r : chain_Holders_a) (h : Hp)
  (hi : 0 ≤ i ∧ i ≤ 100) (ho : o ≠ [] ∧ o.length + G.length ≤ 180) (hG : PInL c G) (hl : G.length ≤ 90) (hP : PIn c h.p) (hh0 : cI v9 i 0 = h.a) (hh1 : cI v9 i 1 = h.p) (hh2 : cB v9 i 2 = h.b)
include hi ho hG hl hh0 hh1
theorem hd_back (k : Nat) (hk : G.reverse[k]? = some h.p) (hm : ∀ j, j < k → G.reverse[j]? ≠ some h.p) (hn : 200 < n)
    (hgo : go0 (withV c (popd h.p G), i + 1, hdL (holdF c o (pops h.a h.p G)), foL (popd h.p G)) = some r) :
    iterF (fun go1 s => chain_Holders_17 n go0 go1 c.f (ptL c.ps) v9 i (k : Int) s.1 s.2.1 s.2.2) n ((true, hdL o, foL G) : chain_Holders_s2) = some r := by
  refine iterF_ind (fun s => ∃ (B G' : List Int) (o' : List Hd), s = (true, hdL o', foL G') ∧ G = B ++ G' ∧ popd h.p G' = popd h.p G ∧ holdF c o' (pops h.a h.p G') = holdF c o (pops h.a h.p G) ∧ o' ≠ [] ∧ o'.length + G'.length ≤ 180) (fun s => s.2.2.length) r ?_ n _ ⟨[], G, o, rfl, rfl, rfl, rfl, ho.1, ho.2⟩ (by rw [foL_len]; omega)
  rintro _ go ⟨B, G', o', rfl, hB, hp, hoo, hne, hlen⟩ ih
  simp only
  have hin : h.p ∈ G' ↔ k < G'.length := by
    subst hB
    exact pop_in hk hm
  have hG' : PInL c G' := fun x hx => hG x (by rw [hB]; exact List.mem_append_right _ hx)
  have hlG : G'.length ≤ 90 := by rw [hB, List.length_append] at hl; omega
  by_cases hkk : k < G'.length
  · cases G' with
    | nil => simp at hkk
    | cons x G' =>
      simp only [List.length_cons] at hlG
      rw [hd10_pop n go0 go c v9 i o' G' k ⟨hne, by omega⟩ (fun y hy => hG' y (List.mem_cons_of_mem _ hy)) (by omega) x hkk]
      have h1 : h.p ∈ x :: G' := hin.2 hkk
      have e1 : popd h.p (x :: G') = popd h.p G' := by rw [popd, if_pos h1]
      have e2 : pops h.a h.p (x :: G') = ⟨h.a, x, if x = h.p then 3 else 4, G'⟩ :: pops h.a h.p G' := by rw [pops, if_pos h1]
      rw [hh0]
      have hw := holdW_len o' h.a (withV c G')
      refine ih _ ⟨B ++ [x], G', holdW o' h.a (withV c G'), rfl, by rw [hB]; simp, by rw [← hp, e1], by rw [← hoo, e2]; rfl, holdW_ne _ _ _, by simp only [List.length_cons] at hlen; omega⟩ ?_
      simp only [foL_len, List.length_cons]; omega
  · have h1 : h.p ∉ G' := fun h => hkk (hin.1 h)
    have e1 : popd h.p G' = G' := popd_no h1
    have e2 : pops h.a h.p G' = [] := by
      cases G' with
      | nil => rfl
      | cons x G' => rw [pops, if_neg h1]
    rw [hd10_end n go0 go c v9 i o' G' k hi ⟨hne, by omega⟩ hG' (by omega) hkk]
    rw [e2] at hoo
    have hoo : o' = holdF c o (pops h.a h.p G) := hoo
    rw [hoo, ← e1, hp]
    exact hgo
include hP hh2
/-- a happening -/
theorem hd_round (hL : Life c.life) (h0 : 0 ≤ h.a) (hn : 200 < n) (hnl : c.life.length < n)
    (hgo : go0 (withV c (aftH c G h), i + 1, hdL (holdF c o (momsH c G h)), foL (aftH c G h)) = some r) :
    iterF (fun go1 s => chain_Holders_4 n go0 go1 c.f (evL c.life) (ptL c.ps) v9 (withV c G) i (hdL o) (foL G) s) n (0 : chain_Holders_s1) = some r := by
  refine iterF_ind (fun s => ∃ j : Nat, s = (j : Int) ∧ j ≤ G.length ∧ ∀ j', j' < j → G.reverse[j']? ≠ some h.p) (fun s => G.length - s.toNat) r ?_ n _ ⟨0, rfl, by omega, fun j hj => by omega⟩ (by omega)
  rintro _ go ⟨j, rfl, hj, hm⟩ ih
  have hP' : PIn c (cI v9 i 1) := by rw [hh1]; exact hP
  have p1 : (0 : Int) ≤ cI v9 i 1 := hP'.1
  have p2 : cI v9 i 1 < ((ptL c.ps).length : Int) := by rw [List.length_map]; exact hP'.2
  -- a port that takes effect or misses
  have hE : h.b = false → ∀ go1, chain_Holders_7 n go0 go1 c.f (ptL c.ps) v9 (withV c G) i (hdL o) (foL G) (atL c.life (min h.a 10000000)).s (atL c.life (min h.a 10000000)).h = some r := by
    intro hb go1
    rw [hd7 n go0 go1 c v9 i o G hi ⟨ho.1, by omega⟩ hG (by omega) hP', hh0, hh1]
    have hnb : ¬ h.b = true := by rw [hb]; decide
    unfold aftH momsH at hgo
    rw [if_neg hnb, if_neg hnb] at hgo
    by_cases ht : Takes c G h
    · rw [if_pos ht, if_pos ht] at hgo
      exact (if_pos ht).trans hgo
    · rw [if_neg ht, if_neg ht] at hgo
      exact (if_neg ht).trans hgo
  unfold chain_Holders_4
  by_cases hlt : j < G.length
  · have c1 : (j : Int) < ((foL G).length : Int) := by rw [foL_len]; omega
    have c2 : (0 : Int) ≤ (j : Int) := by omega
    obtain ⟨x, hx⟩ := get_lt (l := G.reverse) (i := j) (by simpa using hlt)
    rw [decide_eq_true c1, cond_true, decide_eq_true c2, cond_true]
    unfold chain_Holders_5
    rw [foL_cell hx]
    by_cases he : cI v9 i 1 = x
    · rw [decide_eq_true he, cond_true, decide_eq_true p1, cond_true, decide_eq_true p2, cond_true]
      unfold chain_Holders_6
      rw [hh2]
      cases hb : h.b with
      | false =>
        rw [Bool.not_false, cond_true, hh0, at_T hL h0 n hnl, Option.bind_some]
        exact hE hb _
      | true =>
        rw [Bool.not_true, cond_false]
        unfold chain_Holders_15
        have c3 : ¬ (j : Int) < 0 := by omega
        rw [decide_eq_false c3, cond_false]
        have hx' : G.reverse[j]? = some h.p := by rw [hx, ← he, hh1]
        have hin : h.p ∈ G := List.mem_reverse.1 (List.mem_of_getElem? hx')
        unfold aftH momsH at hgo
        rw [if_pos hb, if_pos hb, if_pos hin] at hgo
        exact hd_back n go0 c v9 i o G r h hi ho hG hl hh0 hh1 j hx' hm hn hgo
    · have c4 : (-9223372036854775808 : Int) ≤ (j : Int) + 1 := by omega
      have c5 : (j : Int) + 1 ≤ (9223372036854775807 : Int) := by omega
      rw [decide_eq_false he, cond_false, decide_eq_true c4, decide_eq_true c5, Bool.and_self, cond_true]
      refine ih _ ⟨j + 1, by omega, by omega, fun j' hj' => ?_⟩ (by omega)
      rcases Nat.lt_or_ge j' j with h1 | h1
      · exact hm j' h1
      · have : j' = j := by omega
        subst this
        rw [hx, ← hh1]
        exact fun e => he (Option.some.inj e).symm
  · have c1 : ¬ (j : Int) < ((foL G).length : Int) := by rw [foL_len]; omega
    have hnin : h.p ∉ G := fun hin => by
      obtain ⟨q, hq, he⟩ := List.getElem_of_mem (List.mem_reverse.2 hin)
      have hq' : q < G.length := by simpa using hq
      exact hm q (by omega) (by rw [List.getElem?_eq_getElem hq, he])
    rw [decide_eq_false c1, cond_false, decide_eq_true p1, cond_true, decide_eq_true p2, cond_true]
    unfold chain_Holders_22
    rw [hh2]
    cases hb : h.b with
    | false =>
      rw [Bool.not_false, cond_true, hh0, at_T hL h0 n hnl, Option.bind_some, hd23]
      exact hE hb _
    | true =>
      rw [Bool.not_true, cond_false]
      unfold aftH momsH at hgo
      rw [if_pos hb, if_pos hb, if_neg hnin, popd_no hnin, ← hh0] at hgo
      rw [← hgo]
      exact hd_tail go0 c v9 i o G hi ⟨ho.1, by omega⟩ hG (by omega)
end
theorem holdF_app (c : Ch) (o : List Hd) (A B : List Mo) : holdF c o (A ++ B) = holdF c (holdF c o A) B := by simp [holdF]
theorem holdF_ne (c : Ch) : ∀ (l : List Mo) (o : List Hd), o ≠ [] → holdF c o l ≠ []
  | [], o, h => h
  | m :: l, o, _ => holdF_ne c l (holdS c o m) (holdW_ne _ _ _)
theorem holdF_len (c : Ch) : ∀ (l : List Mo) (o : List Hd), (holdF c o l).length ≤ o.length + l.length
  | [], o => by simp [holdF]
  | m :: l, o => by
    have h1 := holdF_len c l (holdS c o m)
    have h2 := holdW_len o m.a (withV c m.G)
    show (holdF c (holdS c o m) l).length ≤ _
    unfold holdS at h1 ⊢
    simp only [List.length_cons]; omega
abbrev hdV (l : List Hd) : Lv := l.map hdR
theorem chain_Holders_v (n : Nat) (c : Ch) (hl : c.life.length < n) (hn : 200 < n) : chain_Holders n c.n c.f c.r.a c.r.c c.r.s c.r.r (evL c.life) (ptL c.ps) = some (if ChV c then (hdV (holdV c), 0) else ([], 170)) := by
  unfold chain_Holders chain_Holders_1
  rw [chain_Valid_v n c hl hn, Option.bind_some]
  unfold chain_Holders_2
  by_cases h : ChV c
  · rw [if_pos h, decide_eq_true h, Bool.not_true, cond_false, chain_happenings_v n c h hn, Option.bind_some]
    obtain ⟨H, hH⟩ : ∃ H, H = hps c := ⟨_, rfl⟩
    have hHl : H.length ≤ 16 := by
      have := hps_len c
      have := h.2.2.2.2.2.1
      rw [hH]; omega
    have hT : turnsV c = moms c [] H := by rw [hH]; rfl
    rw [← hH]
    refine iterF_ind (fun s => ∃ i : Nat, s = (withV c (force c [] (H.take i)), (i : Int), hdL (holdF c [⟨c.f, 0, 0⟩] (moms c [] (H.take i))), foL (force c [] (H.take i))) ∧ i ≤ H.length) (fun s => H.length - s.2.1.toNat) _ ?_ n _ ⟨0, rfl, by omega⟩ (by simp; omega)
    rintro _ go ⟨i, rfl, hi⟩ ih
    simp only
    unfold chain_Holders_3
    have hti : (H.take i).length ≤ i := by rw [List.length_take]; omega
    have hfl := force_len c (H.take i) []
    have hml := moms_len c (H.take i) []
    simp only [List.length_nil] at hfl hml
    have hne := holdF_ne c (moms c [] (H.take i)) [⟨c.f, 0, 0⟩] (by simp)
    have hhl := holdF_len c (moms c [] (H.take i)) [⟨c.f, 0, 0⟩]
    simp only [List.length_cons, List.length_nil] at hhl
    by_cases hlt : i < H.length
    · obtain ⟨x, hx⟩ := get_lt hlt
      obtain ⟨x0, x1, x2⟩ := hp_cells hx
      have hxm : x ∈ hps c := by rw [← hH]; exact List.mem_of_getElem? hx
      have c1 : (i : Int) < ((hpL H).length : Int) := by rw [List.length_map]; omega
      have c2 : (0 : Int) ≤ (i : Int) := by omega
      have hPx : PIn c x.p := by
        obtain ⟨k, p, g1, g2, _⟩ := hps_port hxm
        have := (List.getElem?_eq_some_iff.1 g1).1
        rw [g2]
        exact ⟨by omega, by omega⟩
      rw [decide_eq_true c1, cond_true, decide_eq_true c2, cond_true]
      refine hd_round n go c (hpL H) i _ (force c [] (H.take i)) _ x (by omega) ⟨hne, by omega⟩ (force_in fun y hy => by rw [← hH]; exact List.mem_of_mem_take hy) (by omega) hPx x0 x1 x2 h.1 (hps_ge h hxm).1 hn hl ?_
      have e1 : H.take (i + 1) = H.take i ++ [x] := take_snoc hx
      have e2 : force c [] (H.take (i + 1)) = aftH c (force c [] (H.take i)) x := by rw [e1]; simp [force]
      have e3 : moms c [] (H.take (i + 1)) = moms c [] (H.take i) ++ momsH c (force c [] (H.take i)) x := by rw [e1, moms_app]; simp [moms]
      rw [← e2, ← holdF_app, ← e3]
      exact ih _ ⟨i + 1, rfl, by omega⟩ (by simp only; omega)
    · have h00 : i = H.length := by omega
      have c1 : ¬ (i : Int) < ((hpL H).length : Int) := by rw [List.length_map]; omega
      rw [decide_eq_false c1, cond_false]
      have hV : holdV c = (closeH (holdF c [⟨c.f, 0, 0⟩] (moms c [] (H.take i)))).reverse := by rw [h00, List.take_length, ← hT]; rfl
      rw [hV]
      cases hq : holdF c [⟨c.f, 0, 0⟩] (moms c [] (H.take i)) with
      | nil => exact absurd hq hne
      | cons x r =>
        rw [hq] at hhl
        have hL : ((hdL (x :: r)).length : Int) = (r.length : Int) + 1 := by rw [hdL_len]; rfl
        have e1 : (-9223372036854775808 : Int) ≤ ((hdL (x :: r)).length : Int) - 1 := by omega
        have e2 : ((hdL (x :: r)).length : Int) - 1 ≤ (9223372036854775807 : Int) := by simp only [List.length_cons] at hhl; omega
        have e3 : (0 : Int) ≤ ((hdL (x :: r)).length : Int) - 1 := by omega
        have e4 : ((hdL (x :: r)).length : Int) - 1 < ((hdL (x :: r)).length : Int) := by omega
        rw [decide_eq_true e1, decide_eq_true e2, Bool.and_self, cond_true, decide_eq_true e3, cond_true, decide_eq_true e4, cond_true, hdL_to]
        rfl
  · rw [if_neg h, decide_eq_false h, Bool.not_false, cond_true]
end Go.Proofs.Ytjllgiddmeiaoaa
