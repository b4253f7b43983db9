/-
  Maps of blocks, the reference: what Valid, holder and Piece give.
-/
import Derived.Test.YtgckmifmjiklmaaB1
import Derived.Test.YtgckmifmjiklmaaQ0
import Derived.Test.YtgckmifmjiklmaaBlkM
set_option linter.unusedVariables false
set_option linter.unusedSimpArgs false
set_option maxRecDepth 100000
namespace Go.Proofs.Ytgckmifmjiklmaa
open Go Go.Sx Go.Dial.Blk
abbrev bR (b : B3) : List AV := [.int b.f, .int b.t, .int b.c]
abbrev bL (l : List B3) : Lv := l.map bR
theorem bcell {l : List B3} {i : Nat} {b : B3} (h : l[i]? = some b) : cI (bL l) (i : Int) 0 = b.f ∧ cI (bL l) (i : Int) 1 = b.t ∧ cI (bL l) (i : Int) 2 = b.c := by
  have hc : ∀ k, cA (bL l) (i : Int) k = (bR b).getD k (.int 0) := fun k => cA_map (by simpa using h)
  refine ⟨?_, ?_, ?_⟩ <;> (simp only [cI, hc]; rfl)
theorem bdrop {α : Type} {l : List α} {i : Nat} {x : α} (h : l[i]? = some x) : l.drop i = x :: l.drop (i + 1) := by
  obtain ⟨hl, rfl⟩ := List.getElem?_eq_some_iff.1 h
  exact List.drop_eq_getElem_cons hl
/-- ascending, as a test -/
def ascB : Int → Int → List B3 → Bool
  | _, _, [] => true
  | e, k, b :: l => decide (0 ≤ b.f ∧ b.f < b.t ∧ b.t ≤ 100000000 ∧ 0 ≤ b.c ∧ b.c ≤ 7 ∧ e ≤ b.f ∧ (b.f = e → b.c ≠ k)) && ascB b.t b.c l
theorem ascB_iff : ∀ (l : List B3) (e k : Int), ascB e k l = true ↔ Dial.Blk.Asc e k l
  | [], _, _ => by simp [ascB, Dial.Blk.Asc]
  | b :: l, e, k => by
    rw [ascB, Bool.and_eq_true, ascB_iff l, decide_eq_true_eq, Dial.Blk.Asc]
    simp only [and_assoc]
def vldB (l : List B3) : Bool := decide (l.length ≤ 40) && ascB 0 (-1) l
theorem vldB_iff (l : List B3) : vldB l = true ↔ l.length ≤ 40 ∧ Canon l := by rw [vldB, Bool.and_eq_true, decide_eq_true_eq, ascB_iff]; rfl
theorem ref13_pick_v (n : Nat) {c k : Int} (hc : In64 c) (hk : 0 < k) : ref13_pick n c k = some (pk c k) := by
  unfold ref13_pick ref13_pick_1 pk
  unfold In64 at hc
  grind
/-- a drawn range -/
def pieceR (a b : Int) : Int × Int :=
  if pk a 8 = 7 then (1666666 * pk a 60, 1666666 * (pk a 60 + 1 + pk b (60 - pk a 60)) + 40) else (pk a 60, pk a 60 + 1 + pk b (60 - pk a 60))
theorem pieceR_bd (a b : Int) : 0 ≤ (pieceR a b).1 ∧ (pieceR a b).1 < (pieceR a b).2 ∧ (pieceR a b).2 ≤ 100000000 := by
  have h1 := pk_bd a (k := 60) (by decide)
  have h2 := pk_bd b (k := 60 - pk a 60) (by omega)
  unfold pieceR
  split <;> simp only <;> omega
theorem ref13_Piece_v (n : Nat) {a b : Int} (ha : In64 a) (hb : In64 b) : ref13_Piece n a b = some (pieceR a b) := by
  have h1 := pk_bd a (k := 60) (by decide)
  have h2 := pk_bd b (k := 60 - pk a 60) (by omega)
  unfold ref13_Piece ref13_Piece_1 pieceR
  rw [ref13_pick_v n ha (k := 60) (by decide), Option.bind_some, ref13_pick_v n hb (k := 60 - pk a 60) (by omega), Option.bind_some, ref13_pick_v n ha (k := 8) (by decide), Option.bind_some]
  generalize pk a 60 = x at *
  generalize pk b (60 - x) = y at *
  generalize pk a 8 = z at *
  grind
theorem ref13_holder_v (n : Nat) (l : List B3) (k : Int) (hn : l.length < n) (hl : l.length ≤ 1000) : ref13_holder n (bL l) k = some (hold l k) := by
  unfold ref13_holder ref13_holder_1
  refine iterF_ind (fun s => ∃ i : Nat, s = (i : Int) ∧ i ≤ l.length ∧ hold l k = hold (l.drop i) k) (fun s => l.length - s.toNat) _ ?_ n _ ⟨0, rfl, by omega, by simp⟩ (by simp; omega)
  rintro _ go ⟨i, rfl, hi, hE⟩ ih
  unfold ref13_holder_2
  by_cases hlt : i < l.length
  · obtain ⟨b, hb⟩ := get_lt hlt
    obtain ⟨g0, g1, g2⟩ := bcell hb
    have c1 : (i : Int) < (l.length : Int) := by omega
    have c2 : (0 : Int) ≤ (i : Int) := by omega
    have c4 : (-9223372036854775808 : Int) ≤ (i : Int) + 1 := by omega
    have c5 : (i : Int) + 1 ≤ (9223372036854775807 : Int) := by omega
    simp only [g0, g1, g2, List.length_map, c1, c2, c4, c5, decide_true, cond_true, Bool.and_self]
    rw [bdrop hb, hold] at hE
    have hgo : ¬ (b.f ≤ k ∧ k < b.t) → go ((i : Int) + 1) = some (hold l k) := fun hv => ih _ ⟨i + 1, by simp, by omega, by rw [hE, if_neg hv]⟩ (by omega)
    by_cases hv : b.f ≤ k ∧ k < b.t
    · rw [if_pos hv] at hE
      rw [hE]; grind
    · rw [hgo hv]; grind
  · have h0 : i = l.length := by omega
    have c1 : ¬ (i : Int) < (l.length : Int) := by omega
    rw [h0, List.drop_length] at hE
    simp only [List.length_map, c1, decide_false, cond_false]
    rw [hE]; rfl
theorem ref13_Valid_v (n : Nat) (l : List B3) (hn : 41 < n) : ref13_Valid n (bL l) = some (vldB l) := by
  unfold ref13_Valid ref13_Valid_1
  by_cases h3 : l.length ≤ 40
  · have c3 : ¬ (40 : Int) < (l.length : Int) := by omega
    have e3 : vldB l = ascB 0 (-1) l := by simp [vldB, h3]
    simp only [List.length_map, c3, decide_false, cond_false, e3]
    refine iterF_ind (fun s => ∃ (i : Nat) (e k : Int), s = (i : Int) ∧ i ≤ l.length ∧ ascB 0 (-1) l = ascB e k (l.drop i) ∧ (i = 0 → e = 0 ∧ k = -1) ∧ ∀ j, i = j + 1 → ∃ p, l[j]? = some p ∧ e = p.t ∧ k = p.c) (fun s => l.length - s.toNat) _ ?_ n _ ⟨0, 0, -1, rfl, by omega, by simp, fun _ => ⟨rfl, rfl⟩, fun j hj => by omega⟩ (by simp; omega)
    rintro _ go ⟨i, e, k, rfl, hi, hE, h0, hp⟩ ih
    unfold ref13_Valid_2
    by_cases hlt : i < l.length
    · obtain ⟨b, hb⟩ := get_lt hlt
      obtain ⟨g0, g1, g2⟩ := bcell hb
      have c1 : (i : Int) < (l.length : Int) := by omega
      have c2 : (0 : Int) ≤ (i : Int) := by omega
      have c4 : (-9223372036854775808 : Int) ≤ (i : Int) + 1 := by omega
      have c5 : (i : Int) + 1 ≤ (9223372036854775807 : Int) := by omega
      simp only [g0, g1, g2, List.length_map, c1, c2, c4, c5, decide_true, cond_true, Bool.and_self]
      rw [bdrop hb, ascB] at hE
      have hgo : (0 ≤ b.f ∧ b.f < b.t ∧ b.t ≤ 100000000 ∧ 0 ≤ b.c ∧ b.c ≤ 7 ∧ e ≤ b.f ∧ (b.f = e → b.c ≠ k)) → go ((i : Int) + 1) = some (ascB 0 (-1) l) := fun hv => ih _ ⟨i + 1, b.t, b.c, by simp, by omega, by rw [hE, decide_eq_true hv, Bool.true_and], fun h => by omega, fun j hj => ⟨b, by rw [show j = i by omega]; exact hb, rfl, rfl⟩⟩ (by omega)
      by_cases hv : (0 ≤ b.f ∧ b.f < b.t ∧ b.t ≤ 100000000 ∧ 0 ≤ b.c ∧ b.c ≤ 7 ∧ e ≤ b.f ∧ (b.f = e → b.c ≠ k))
      · rw [hgo hv]
        obtain ⟨v1, v2, v3, v4, v5, v6, v7⟩ := hv
        cases i with
        | zero => simp [v1, v2, v3, v4, v5]
        | succ j =>
          obtain ⟨p, hp1, rfl, rfl⟩ := hp j rfl
          obtain ⟨q0, q1, q2⟩ := bcell hp1
          have e1 : ((j + 1 : Nat) : Int) - 1 = (j : Int) := by omega
          simp only [e1, q1, q2]
          have d1 : (0 : Int) < ((j + 1 : Nat) : Int) := by omega
          have d2 : (0 : Int) ≤ (j : Int) := by omega
          have d3 : (j : Int) < (l.length : Int) := by omega
          have d4 : (-9223372036854775808 : Int) ≤ (j : Int) := by omega
          have d5 : (j : Int) ≤ (9223372036854775807 : Int) := by omega
          grind
      · have hf : ascB 0 (-1) l = false := by rw [hE, decide_eq_false hv, Bool.false_and]
        rw [hf]
        cases i with
        | zero =>
          obtain ⟨rfl, rfl⟩ := h0 rfl
          have : ¬ (0 ≤ b.f ∧ b.f < b.t ∧ b.t ≤ 100000000 ∧ 0 ≤ b.c ∧ b.c ≤ 7) := fun hh => hv ⟨hh.1, hh.2.1, hh.2.2.1, hh.2.2.2.1, hh.2.2.2.2, hh.1, fun _ => by omega⟩
          have d1 : ¬ (0 : Int) < ((0 : Nat) : Int) := by decide
          simp only [d1, decide_false, cond_false]
          grind
        | succ j =>
          obtain ⟨p, hp1, rfl, rfl⟩ := hp j rfl
          obtain ⟨q0, q1, q2⟩ := bcell hp1
          have e1 : ((j + 1 : Nat) : Int) - 1 = (j : Int) := by omega
          simp only [e1, q1, q2]
          have d1 : (0 : Int) < ((j + 1 : Nat) : Int) := by omega
          have d2 : (0 : Int) ≤ (j : Int) := by omega
          have d3 : (j : Int) < (l.length : Int) := by omega
          have d4 : (-9223372036854775808 : Int) ≤ (j : Int) := by omega
          have d5 : (j : Int) ≤ (9223372036854775807 : Int) := by omega
          grind
    · have h0 : i = l.length := by omega
      have c1 : ¬ (i : Int) < (l.length : Int) := by omega
      simp only [List.length_map, c1, decide_false, cond_false]
      rw [hE, h0, List.drop_length]; rfl
  · have c3 : (40 : Int) < (l.length : Int) := by omega
    have e3 : vldB l = false := by simp [vldB, h3]
    simp only [List.length_map, c3, decide_true, cond_true, e3]
end Go.Proofs.Ytgckmifmjiklmaa
