/-
  Maps of blocks, the reference: combine, Give, Take, Made.
-/
import Derived.Test.YtgckmifmjiklmaaB3
import Derived.Test.YtgckmifmjiklmaaBb
set_option linter.unusedVariables false
set_option linter.unusedSimpArgs false
set_option maxRecDepth 100000
namespace Go.Proofs.Ytgckmifmjiklmaa
open Go Go.Sx Go.Dial.Blk
/-- a range laid behind a list of blocks: as the reference does it -/
def growF {α : Type} (go0 : Lv × Int → Option α) (v6 : Lv) (v7 P Q y : Int) : Option α :=
  (bif (decide (0 < (v6.length : Int))) then bif ((decide ((-9223372036854775808) ≤ ((v6.length : Int) - 1))) && (decide (((v6.length : Int) - 1) ≤ 9223372036854775807))) then bif (decide (0 ≤ (imax ((v6.length : Int) - 1) 0))) then bif (decide ((imax ((v6.length : Int) - 1) 0) < (v6.length : Int))) then (bif (decide ((cI v6 (imax ((v6.length : Int) - 1) 0) 1) = P)) then (bif (decide ((cI v6 (imax ((v6.length : Int) - 1) 0) 2) = y)) then bif (decide (0 ≤ (v7 + 1))) then bif (decide (0 ≤ ((v6.length : Int) - 1))) then bif (decide (((v6.length : Int) - 1) < (v6.length : Int))) then go0 ((List.modify v6 (((v6.length : Int) - 1)).toNat (fun r => r.set 1 (AV.int Q))), (v7 + 1)) else none else none else none
  else bif (decide (0 ≤ (v7 + 1))) then bif (decide ((((v6.length : Int) + 1) * 24) ≤ 140737488355328)) then go0 ((v6 ++ [[(AV.int P), (AV.int Q), (AV.int y)]]), (v7 + 1)) else none else none)
  else bif (decide (0 ≤ (v7 + 1))) then bif (decide ((((v6.length : Int) + 1) * 24) ≤ 140737488355328)) then go0 ((v6 ++ [[(AV.int P), (AV.int Q), (AV.int y)]]), (v7 + 1)) else none else none) else none else none else none
  else bif (decide (0 ≤ (v7 + 1))) then bif (decide ((((v6.length : Int) + 1) * 24) ≤ 140737488355328)) then go0 ((v6 ++ [[(AV.int P), (AV.int Q), (AV.int y)]]), (v7 + 1)) else none else none)
theorem bL_app (l m : List B3) : bL (l ++ m) = bL l ++ bL m := List.map_append
theorem mod_last {α : Type} (l : List α) (x : α) (f : α → α) : (l ++ [x]).modify l.length f = l ++ [f x] := by
  induction l with
  | nil => rfl
  | cons a l ih =>
    show (a :: (l ++ [x])).modify (l.length + 1) f = a :: (l ++ [f x])
    rw [List.modify_succ_cons, ih]
theorem bmod (l : List B3) (y : B3) (q : Int) : List.modify (bL (l ++ [y])) l.length (fun r => r.set 1 (AV.int q)) = bL (l ++ [⟨y.f, q, y.c⟩]) := by
  rw [bL_app, bL_app]
  have := mod_last (bL l) (bR y) (fun r => r.set 1 (AV.int q))
  rw [show (bL l).length = l.length by simp] at this
  exact this
theorem grow_v {α : Type} (go0 : Lv × Int → Option α) (o : List B3) (i : Nat) (p q y : Int) (hy : 0 ≤ y) (hl : o.length ≤ 1000) : growF go0 (bL o) (i : Int) p q y = go0 (bL (Dial.Blk.step o p q y), (i : Int) + 1) := by
  have c2 : (0 : Int) ≤ (i : Int) + 1 := by omega
  have hy1 : y ≠ -1 := by omega
  unfold growF
  rcases List.eq_nil_or_concat o with rfl | ⟨l, b, rfl⟩
  · rw [step_nil _ _ _ hy1, decide_eq_false (by simp : ¬ (0 : Int) < ((bL []).length : Int)), cond_false, decide_eq_true c2, cond_true, decide_eq_true (by simp : (((bL []).length : Int) + 1) * 24 ≤ 140737488355328), cond_true]
    rfl
  · rw [List.concat_eq_append] at *
    have hb : (l ++ [b])[l.length]? = some b := by simp
    obtain ⟨g0, g1, g2⟩ := bcell hb
    have hlen : ((bL (l ++ [b])).length : Int) = (l.length : Int) + 1 := by simp
    have hle : l.length ≤ 1000 := by simp at hl; omega
    have e1 : ((bL (l ++ [b])).length : Int) - 1 = (l.length : Int) := by omega
    have e2 : imax (((bL (l ++ [b])).length : Int) - 1) 0 = (l.length : Int) := by rw [e1]; unfold imax; split <;> omega
    have e3 : (l.length : Int).toNat = l.length := by omega
    rw [e2, e1, g1, g2, e3, bmod]
    have k1 : (0 : Int) < ((bL (l ++ [b])).length : Int) := by omega
    have k2 : (-9223372036854775808 : Int) ≤ (l.length : Int) := by omega
    have k3 : (l.length : Int) ≤ 9223372036854775807 := by omega
    have k4 : (0 : Int) ≤ (l.length : Int) := by omega
    have k5 : (l.length : Int) < ((bL (l ++ [b])).length : Int) := by omega
    have k6 : (((bL (l ++ [b])).length : Int) + 1) * 24 ≤ 140737488355328 := by omega
    rw [step_snoc _ _ _ _ _ hy1, decide_eq_true k1, cond_true, decide_eq_true k2, decide_eq_true k3, Bool.and_self, cond_true, decide_eq_true k4, cond_true, decide_eq_true k5, cond_true, decide_eq_true c2, decide_eq_true k6]
    simp only [cond_true]
    by_cases h1 : b.t = p
    · by_cases h2 : b.c = y
      · rw [decide_eq_true h1, decide_eq_true h2, if_pos ⟨h1, h2⟩, ← h2]; simp only [cond_true]
      · rw [decide_eq_true h1, decide_eq_false h2, if_neg (fun h => h2 h.2)]; simp only [cond_true, cond_false]; rw [bL_app (l ++ [b])]; rfl
    · rw [decide_eq_false h1, if_neg (fun h => h1 h.1)]; simp only [cond_false]; rw [bL_app (l ++ [b])]; rfl
/-- what the reference's combine makes of two holders -/
def gcR (w f t x y : Int) : Int :=
  if w = 1 ∧ 0 ≤ y then -1 else
  if (w = 0 ∧ 0 ≤ y) ∨ (w = 2 ∧ y < 0) then (if 0 ≤ y ∧ y = f then t else y) else (if 0 ≤ x ∧ x = f then t else x)
theorem comb6 (n : Nat) (go : Lv × Int → Option ref13_combine_a) (v3 v4 : Int) (E : List Int) (o : List B3) (i : Nat) (x p q : Int) (hp : E[i]? = some p) (hq : E[i + 1]? = some q) (hx : -1 ≤ x) (h4 : -1 ≤ v4) (hl : o.length ≤ 1000) :
    ref13_combine_6 n go v3 v4 (iL E) (bL o) (i : Int) x = go (bL (Dial.Blk.step o p q (if 0 ≤ x ∧ x = v3 then v4 else x)), (i : Int) + 1) := by
  have hP : cI (iL E) (i : Int) 0 = p := icell hp
  have hQ : cI (iL E) ((i : Int) + 1) 0 = q := icell (i := i + 1) hq
  unfold ref13_combine_6
  rw [hP, hQ]
  by_cases h0 : 0 ≤ x
  · rw [decide_eq_true h0, cond_true]
    by_cases h1 : x = v3
    · rw [decide_eq_true h1, cond_true, if_pos ⟨h0, h1⟩]
      by_cases h2 : v4 < 0
      · have : v4 = -1 := by omega
        rw [decide_eq_true h2, cond_true, this, step_none]
      · rw [decide_eq_false h2, cond_false]
        exact grow_v go o i p q v4 (by omega) hl
    · rw [decide_eq_false h1, cond_false, if_neg (fun h => h1 h.2), decide_eq_false (by omega : ¬ x < 0), cond_false]
      exact grow_v go o i p q x h0 hl
  · have : x = -1 := by omega
    subst this
    rw [if_neg (by omega), step_none]
    rfl
theorem comb4 (n : Nat) (go : Lv × Int → Option ref13_combine_a) (w v3 v4 : Int) (hw : w = 0 ∨ w = 1 ∨ w = 2) (E : List Int) (o : List B3) (i : Nat) (x y p q : Int) (hp : E[i]? = some p) (hq : E[i + 1]? = some q) (hx : -1 ≤ x) (hy : -1 ≤ y) (h4 : -1 ≤ v4) (hl : o.length ≤ 1000) :
    ref13_combine_4 n go w v3 v4 (iL E) (bL o) (i : Int) x y = go (bL (Dial.Blk.step o p q (gcR w v3 v4 x y)), (i : Int) + 1) := by
  unfold gcR
  have hX := comb6 n go v3 v4 E o i x p q hp hq hx h4 hl
  unfold ref13_combine_4
  rcases hw with rfl | rfl | rfl
  · rw [decide_eq_true rfl, cond_true]
    unfold ref13_combine_5
    by_cases h0 : 0 ≤ y
    · have hY := comb6 n go v3 v4 E o i y p q hp hq hy h4 hl
      unfold ref13_combine_6 at hY
      rw [decide_eq_true h0, cond_true] at hY ⊢
      rw [if_neg (by omega), if_pos (by omega)]
      exact hY
    · rw [decide_eq_false h0, cond_false, if_neg (by omega), if_neg (by omega)]
      exact hX
  · rw [decide_eq_false (by decide), cond_false]
    unfold ref13_combine_7
    rw [decide_eq_true rfl, cond_true]
    unfold ref13_combine_8
    by_cases h0 : 0 ≤ y
    · rw [decide_eq_true h0, cond_true, if_pos ⟨rfl, h0⟩, step_none]
    · rw [decide_eq_false h0, cond_false, if_neg (by omega), if_neg (by omega)]
      exact hX
  · rw [decide_eq_false (by decide), cond_false]
    unfold ref13_combine_7
    rw [decide_eq_false (by decide), cond_false]
    unfold ref13_combine_10
    rw [decide_eq_true rfl, cond_true]
    unfold ref13_combine_11
    by_cases h0 : y < 0
    · have : y = -1 := by omega
      subst this
      rw [if_neg (by omega), if_pos (by omega), if_neg (by omega), step_none]
      rfl
    · rw [decide_eq_false h0, cond_false, if_neg (by omega), if_neg (by omega)]
      exact hX
theorem gcR_bd {w f t x y : Int} (hx : -1 ≤ x ∧ x ≤ 7) (hy : -1 ≤ y ∧ y ≤ 7) (ht : -1 ≤ t ∧ t ≤ 7) : -1 ≤ gcR w f t x y ∧ gcR w f t x y ≤ 7 := by
  unfold gcR
  repeat' split
  all_goals omega
theorem ref13_combine_v (n : Nat) (a b : List B3) (w v3 v4 : Int) (ha : Canon a) (hb : Canon b) (hal : a.length ≤ 41) (hbl : b.length ≤ 41) (hw : w = 0 ∨ w = 1 ∨ w = 2) (h4 : -1 ≤ v4 ∧ v4 ≤ 7) (hn : 210 < n) :
    ref13_combine n (bL a) (bL b) w v3 v4 = some (bL (combR fun m => gcR w v3 v4 (hold a m) (hold b m)).1, (combR fun m => gcR w v3 v4 (hold a m) (hold b m)).2) ∧ IsMap (fun m => gcR w v3 v4 (hold a m) (hold b m)) (mapOf fun m => gcR w v3 v4 (hold a m) (hold b m)) := by
  obtain ⟨g, hg⟩ : ∃ g : Int → Int, g = fun m => gcR w v3 v4 (hold a m) (hold b m) := ⟨_, rfl⟩
  rw [← hg]
  obtain ⟨E, hE⟩ : ∃ E, E = edgesI a b := ⟨_, rfl⟩
  have hEd := edges_of ha hb
  have hEl : E.length ≤ 166 := by
    rw [hE]
    have h1 := putB_len b (putB [0, 100000000] a)
    have h2 := putB_len a [0, 100000000]
    show (putB (putB [0, 100000000] a) b).length ≤ 166
    simp at h2; omega
  rw [← hE] at hEd
  -- the fold
  have fold : ∀ k, k < E.length → ∃ o, (∃ p, E[k]? = some p ∧ Upto g p o) ∧ o.length ≤ k ∧ o = (List.range k).foldl (fun o i => Dial.Blk.step o (E.getD i 0) (E.getD (i + 1) 0) (g (E.getD i 0))) [] := by
    intro k
    induction k with
    | zero => intro _; exact ⟨[], ⟨0, hEd.first, Upto.nil g⟩, by simp, rfl⟩
    | succ k ih =>
      intro hk
      obtain ⟨o, ⟨p, hp, ho⟩, hol, hof⟩ := ih (by omega)
      obtain ⟨q, hq⟩ := get_lt (l := E) (i := k + 1) hk
      have hpq := sorted_get hEd.sorted hp hq (by omega)
      have hq2 : q ≤ 100000000 := by
        rcases Nat.lt_or_ge (k + 1) (E.length - 1) with h | h
        · have := sorted_get hEd.sorted hq hEd.last h; omega
        · have : k + 1 = E.length - 1 := by omega
          rw [this, hEd.last] at hq; cases hq; omega
      have hp0 : 0 ≤ p := by
        rcases Nat.eq_zero_or_pos k with h | h
        · subst h; rw [hEd.first] at hp; cases hp; omega
        · have := sorted_get hEd.sorted hEd.first hp h; omega
      have hr1 := hold_range ha p
      have hr2 := hold_range hb p
      have hs := ho.step hp0 hpq hq2 (k := g p) (by rw [hg]; exact gcR_bd hr1 hr2 h4) (fun m h1 h2 => by
        rw [hg]
        show gcR _ _ _ _ _ = gcR _ _ _ _ _
        rw [between ha hEd.sorted (fun c hc => hEd.mem c (.inl hc)) hp hq m h1 h2, between hb hEd.sorted (fun c hc => hEd.mem c (.inr hc)) hp hq m h1 h2])
      refine ⟨Dial.Blk.step o p q (g p), ⟨q, hq, hs⟩, ?_, ?_⟩
      · have := step_len o p q (g p); omega
      · rw [List.range_succ, List.foldl_append, ← hof]
        simp [List.getD, hp, hq]
  obtain ⟨o, ⟨p, hp, ho⟩, hol, hof⟩ := fold (E.length - 1) (by have := hEd.two; omega)
  rw [hEd.last] at hp; cases hp
  have hmap := mapOf_eq ho.isMap
  have hv : vldB o = decide (o.length ≤ 40) := by
    have : ascB 0 (-1) o = true := (ascB_iff o 0 (-1)).2 ho.1
    rw [vldB, this, Bool.and_true]
  refine ⟨?_, by rw [hmap]; exact ho.isMap⟩
  unfold combR
  rw [hmap]
  unfold ref13_combine ref13_combine_1
  rw [ref13_edges_v n a b hn hal hbl, Option.bind_some, ← hE]
  refine iterF_ind (fun s => ∃ i : Nat, s = (bL ((List.range i).foldl (fun o i => Dial.Blk.step o (E.getD i 0) (E.getD (i + 1) 0) (g (E.getD i 0))) []), (i : Int)) ∧ i ≤ E.length - 1) (fun s => E.length - s.2.toNat) _ ?_ n _ ⟨0, rfl, by omega⟩ (by simp; omega)
  rintro _ go ⟨i, rfl, hi⟩ ih
  simp only at ih ⊢
  have htwo := hEd.two
  have c4 : (-9223372036854775808 : Int) ≤ (i : Int) + 1 := by omega
  have c5 : (i : Int) + 1 ≤ (9223372036854775807 : Int) := by omega
  unfold ref13_combine_2
  rw [decide_eq_true c4, decide_eq_true c5, Bool.and_self, cond_true]
  unfold ref13_combine_3
  by_cases hlt : i + 1 < E.length
  · obtain ⟨o', ⟨p, hp, _⟩, hol', hof'⟩ := fold i (by omega)
    obtain ⟨q, hq⟩ := get_lt (l := E) (i := i + 1) hlt
    have c1 : (i : Int) + 1 < ((iL E).length : Int) := by simp; omega
    have c2 : (0 : Int) ≤ (i : Int) := by omega
    have c3 : (i : Int) < ((iL E).length : Int) := by omega
    have hr1 := hold_range ha p
    have hr2 := hold_range hb p
    rw [← hof', decide_eq_true c1, cond_true, decide_eq_true c2, cond_true, decide_eq_true c3, cond_true, icell hp, ref13_holder_v n a p (by omega) (by omega), Option.bind_some, ref13_holder_v n b p (by omega) (by omega), Option.bind_some,
      comb4 n go w v3 v4 hw E o' i _ _ p q hp hq (by omega) (by omega) h4.1 (by omega)]
    refine ih _ ⟨i + 1, ?_, by omega⟩ (by first | omega | (simp only; omega))
    rw [List.range_succ, List.foldl_append, ← hof']
    simp [List.getD, hp, hq, hg]
  · have hie : i = E.length - 1 := by omega
    have c1 : ¬ (i : Int) + 1 < ((iL E).length : Int) := by simp; omega
    rw [hie, ← hof, ← hie, decide_eq_false c1, cond_false, ref13_Valid_v n o (by omega), Option.bind_some, hv]
    by_cases h40 : o.length ≤ 40
    · rw [decide_eq_true h40, if_pos h40]; rfl
    · rw [decide_eq_false h40, if_neg h40]; rfl
end Go.Proofs.Ytgckmifmjiklmaa
