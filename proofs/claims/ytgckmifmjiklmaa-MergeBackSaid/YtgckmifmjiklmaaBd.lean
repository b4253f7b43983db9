/-
  Maps of blocks, the program: Valid, Find, the pieces of two maps, Give.
-/
import Derived.Test.YtgckmifmjiklmaaB4
import Derived.Test.YtgckmifmjiklmaaBm
set_option linter.unusedVariables false
set_option linter.unusedSimpArgs false
set_option maxRecDepth 100000
namespace Go.Proofs.Ytgckmifmjiklmaa
open Go Go.Sx Go.Dial.Blk
theorem block_Valid_v (n : Nat) (l : List B3) (hn : 41 < n) : block_Valid n (bL l) = some (vldB l) := by
  unfold block_Valid block_Valid_1
  by_cases h3 : l.length ≤ 40
  · have c3 : (l.length : Int) ≤ (40 : Int) := by omega
    have e3 : vldB l = ascB 0 (-1) l := by simp [vldB, h3]
    simp only [List.length_map, c3, decide_true, cond_true, e3]
    refine iterF_ind (fun s => ∃ (i : Nat) (z e k : Int), s = ((i : Int), z, e, k) ∧ i ≤ l.length ∧ ascB 0 (-1) l = ascB e k (l.drop i)) (fun s => l.length - s.1.toNat) _ ?_ n _ ⟨0, 0, 0, -1, rfl, by omega, by simp⟩ (by simp; omega)
    rintro _ go ⟨i, z, e, k, rfl, hi, hE⟩ ih
    simp only at ih ⊢
    unfold block_Valid_2
    by_cases hlt : i < l.length
    · obtain ⟨b, hb⟩ := get_lt hlt
      obtain ⟨g0, g1, g2⟩ := bcell hb
      have c1 : (i : Int) < (l.length : Int) := by omega
      have c2 : (0 : Int) ≤ (i : Int) := by omega
      have c4 : (-9223372036854775808 : Int) ≤ (i : Int) + 1 := by omega
      have c5 : (i : Int) + 1 ≤ (9223372036854775807 : Int) := by omega
      simp only [g0, g1, g2, List.length_map, c1, c2, c4, c5, decide_true, cond_true, Bool.and_self, Bool.not_true]
      rw [bdrop hb, ascB] at hE
      have hgo : (0 ≤ b.f ∧ b.f < b.t ∧ b.t ≤ 100000000 ∧ 0 ≤ b.c ∧ b.c ≤ 7 ∧ e ≤ b.f ∧ (b.f = e → b.c ≠ k)) → go ((i : Int) + 1, b.f, b.t, b.c) = some (ascB 0 (-1) l) := fun hv => ih _ ⟨i + 1, b.f, b.t, b.c, by simp, by omega, by rw [hE, decide_eq_true hv, Bool.true_and]⟩ (by first | omega | (simp only; omega))
      by_cases hv : (0 ≤ b.f ∧ b.f < b.t ∧ b.t ≤ 100000000 ∧ 0 ≤ b.c ∧ b.c ≤ 7 ∧ e ≤ b.f ∧ (b.f = e → b.c ≠ k))
      · rw [hgo hv]; grind
      · have hf : ascB 0 (-1) l = false := by rw [hE, decide_eq_false hv, Bool.false_and]
        rw [hf]; grind
    · have h0 : i = l.length := by omega
      have c1 : ¬ (i : Int) < (l.length : Int) := by omega
      simp only [List.length_map, c1, decide_false, cond_false]
      rw [hE, h0, List.drop_length]; rfl
  · have c3 : ¬ (l.length : Int) ≤ (40 : Int) := by omega
    have e3 : vldB l = false := by simp [vldB, h3]
    simp only [List.length_map, c3, decide_false, cond_false, e3]
theorem block_pieces_1_v (n : Nat) (l : List B3) (k : Int) (hn : l.length < n) : block_pieces_1 n (bL l) k = some (bL (at_ l k).1, (at_ l k).2.1, (at_ l k).2.2) := by
  unfold block_pieces_1 block_pieces_1_1
  refine iterF_ind (fun s => ∃ m : List B3, s = bL m ∧ at_ m k = at_ l k) (fun s => s.length) _ ?_ n _ ⟨l, rfl, rfl⟩ (by simp; omega)
  rintro _ go ⟨m, rfl, hE⟩ ih
  unfold block_pieces_1_2
  cases m with
  | nil =>
    rw [← hE]
    simp [at_]
  | cons b m =>
    have hb : (b :: m)[0]? = some b := rfl
    obtain ⟨g0, g1, g2⟩ := bcell hb
    have c1 : (0 : Int) < ((bL (b :: m)).length : Int) := by simp
    have c2 : (1 : Int) ≤ ((bL (b :: m)).length : Int) := by omega
    have c3 : ((bL (b :: m)).length : Int) ≤ ((bL (b :: m)).length : Int) := Int.le_refl _
    have c4 : ¬ ((bL (b :: m)).length : Int) = 0 := by omega
    have hd : List.drop ((1 : Int)).toNat (List.take (((bL (b :: m)).length : Int)).toNat (bL (b :: m))) = bL m := by
      rw [show (((bL (b :: m)).length : Int)).toNat = (bL (b :: m)).length from by omega, List.take_length]; rfl
    have g0 : cI (bL (b :: m)) 0 0 = b.f := g0
    have g1 : cI (bL (b :: m)) 0 1 = b.t := g1
    have g2 : cI (bL (b :: m)) 0 2 = b.c := g2
    rw [decide_eq_true c1, cond_true, decide_eq_true c2, cond_true, decide_eq_true c3, cond_true, decide_eq_false c4, cond_false, hd, g0, g1, g2]
    rw [at_] at hE
    by_cases h1 : b.t ≤ k
    · rw [if_pos h1] at hE
      rw [decide_eq_true h1, cond_true]
      exact ih _ ⟨m, rfl, hE⟩ (by simp)
    · rw [if_neg h1] at hE
      rw [decide_eq_false h1, cond_false]
      by_cases h2 : k < b.f
      · rw [if_pos h2] at hE; rw [decide_eq_true h2, cond_true, ← hE]
      · rw [if_neg h2] at hE; rw [decide_eq_false h2, cond_false, ← hE]
/-- a range laid behind a list of blocks: as the program does it -/
def growP {α : Type} (go : Lv → Option α) (v6 : Lv) (P Q y : Int) : Option α :=
  (bif (decide (0 < (v6.length : Int))) then bif ((decide ((-9223372036854775808) ≤ ((v6.length : Int) - 1))) && (decide (((v6.length : Int) - 1) ≤ 9223372036854775807))) then bif (decide (0 ≤ ((v6.length : Int) - 1))) then bif (decide (((v6.length : Int) - 1) < (v6.length : Int))) then (bif (decide ((cI v6 ((v6.length : Int) - 1) 1) = P)) then (bif (decide ((cI v6 ((v6.length : Int) - 1) 2) = y)) then go (List.modify v6 (((v6.length : Int) - 1)).toNat (fun r => r.set 1 (AV.int Q)))
  else bif (decide ((((v6.length : Int) + 1) * 24) ≤ 140737488355328)) then go (v6 ++ [[(AV.int P), (AV.int Q), (AV.int y)]]) else none)
  else bif (decide ((((v6.length : Int) + 1) * 24) ≤ 140737488355328)) then go (v6 ++ [[(AV.int P), (AV.int Q), (AV.int y)]]) else none) else none else none else none
  else bif (decide ((((v6.length : Int) + 1) * 24) ≤ 140737488355328)) then go (v6 ++ [[(AV.int P), (AV.int Q), (AV.int y)]]) else none)
theorem growP_v {α : Type} (go : Lv → Option α) (o : List B3) (p q y : Int) (hy : y ≠ -1) (hl : o.length ≤ 100000000) : growP go (bL o) p q y = go (bL (Dial.Blk.step o p q y)) := by
  unfold growP
  rcases List.eq_nil_or_concat o with rfl | ⟨l, b, rfl⟩
  · rw [step_nil _ _ _ hy, decide_eq_false (by simp : ¬ (0 : Int) < ((bL []).length : Int)), cond_false, decide_eq_true (by simp : (((bL []).length : Int) + 1) * 24 ≤ 140737488355328), cond_true]
    rfl
  · rw [List.concat_eq_append] at *
    have hb : (l ++ [b])[l.length]? = some b := by simp
    obtain ⟨g0, g1, g2⟩ := bcell hb
    have hlen : ((bL (l ++ [b])).length : Int) = (l.length : Int) + 1 := by simp
    have hle : l.length ≤ 100000000 := by simp at hl; omega
    have e1 : ((bL (l ++ [b])).length : Int) - 1 = (l.length : Int) := by omega
    have e3 : (l.length : Int).toNat = l.length := by omega
    rw [e1, g1, g2, e3, bmod]
    have k1 : (0 : Int) < ((bL (l ++ [b])).length : Int) := by omega
    have k2 : (-9223372036854775808 : Int) ≤ (l.length : Int) := by omega
    have k3 : (l.length : Int) ≤ 9223372036854775807 := by omega
    have k4 : (0 : Int) ≤ (l.length : Int) := by omega
    have k5 : (l.length : Int) < ((bL (l ++ [b])).length : Int) := by omega
    have k6 : (((bL (l ++ [b])).length : Int) + 1) * 24 ≤ 140737488355328 := by omega
    rw [step_snoc _ _ _ _ _ hy, decide_eq_true k1, cond_true, decide_eq_true k2, decide_eq_true k3, Bool.and_self, cond_true, decide_eq_true k4, cond_true, decide_eq_true k5, cond_true, decide_eq_true k6]
    simp only [cond_true]
    by_cases h1 : b.t = p
    · by_cases h2 : b.c = y
      · rw [decide_eq_true h1, decide_eq_true h2, if_pos ⟨h1, h2⟩, ← h2]; simp only [cond_true]
      · rw [decide_eq_true h1, decide_eq_false h2, if_neg (fun h => h2 h.2)]; simp only [cond_true, cond_false]; rw [bL_app (l ++ [b])]; rfl
    · rw [decide_eq_false h1, if_neg (fun h => h1 h.1)]; simp only [cond_false]; rw [bL_app (l ++ [b])]; rfl
theorem imin_min (a b : Int) : imin a b = min a b := by unfold imin; omega
/-- who holds a number if a map is laid over another one -/
def overR (x y : Int) : Int := if y = -1 then x else y
theorem overR_bd (x y : Int) (h1 : -1 ≤ x) (h2 : x ≤ 7) (h3 : -1 ≤ y) (h4 : y ≤ 7) : -1 ≤ overR x y ∧ overR x y ≤ 7 := by unfold overR; split <;> omega
end Go.Proofs.Ytgckmifmjiklmaa
