/-
  Joined: FB Q0 Ba Bb Bc Bm.
-/
import Derived.Test.YtgckmifmjiklmaaGreatSxE
import Derived.Test.YtgckmifmjiklmaaGreatD1
import Derived.Test.YtgckmifmjiklmaaGreatBlkA
import Derived.Test.YtgckmifmjiklmaaGreatD2
import Derived.Test.YtgckmifmjiklmaaGreatD4
set_option linter.unusedVariables false
set_option linter.unusedSimpArgs false
set_option maxRecDepth 100000
namespace Go.Sx
open Go
theorem iterF_succ {σ α : Type} (step : (σ → Option α) → σ → Option α) (n : Nat) (s : σ) : iterF step (n + 1) s = step (iterF step n) s := rfl
/-- a loop whose rounds keep something, and whose measure goes down, gives r -/
theorem iterF_ind {σ α : Type} {step : (σ → Option α) → σ → Option α} (Inv : σ → Prop) (mu : σ → Nat) (r : α)
    (h : ∀ s go, Inv s → (∀ s', Inv s' → mu s' < mu s → go s' = some r) → step go s = some r) : ∀ (n : Nat) (s : σ), Inv s → mu s < n → iterF step n s = some r := by
  intro n
  induction n with
  | zero => intro s _ hm; omega
  | succ n ih =>
    intro s hi hm
    exact h s _ hi fun s' hi' hm' => ih s' hi' (by omega)
/-- the same, where the result goes by the state -/
theorem iterF_spec {σ α : Type} {step : (σ → Option α) → σ → Option α} (Inv : σ → Prop) (mu : σ → Nat) (r : σ → α)
    (h : ∀ s go, Inv s → (∀ s', Inv s' → mu s' < mu s → go s' = some (r s')) → step go s = some (r s)) : ∀ (n : Nat) (s : σ), Inv s → mu s < n → iterF step n s = some (r s) := by
  intro n
  induction n with
  | zero => intro s _ hm; omega
  | succ n ih =>
    intro s hi hm
    exact h s _ hi fun s' hi' hm' => ih s' hi' (by omega)
/-- the same, where only something is known of the result -/
theorem iterF_ex {σ α : Type} {step : (σ → Option α) → σ → Option α} (Inv : σ → Prop) (mu : σ → Nat) (Post : α → Prop)
    (h : ∀ s go, Inv s → (∀ s', Inv s' → mu s' < mu s → ∃ r, go s' = some r ∧ Post r) → ∃ r, step go s = some r ∧ Post r) : ∀ (n : Nat) (s : σ), Inv s → mu s < n → ∃ r, iterF step n s = some r ∧ Post r := by
  intro n
  induction n with
  | zero => intro s _ hm; omega
  | succ n ih =>
    intro s hi hm
    exact h s _ hi fun s' hi' hm' => ih s' hi' (by omega)
theorem cA_map {α : Type} {f : α → List AV} {l : List α} {i : Int} {k : Nat} {x : α} (h : l[i.toNat]? = some x) : cA (l.map f) i k = (f x).getD k (.int 0) := by
  simp [cA, List.getD, h]
theorem take_snoc {α : Type} {l : List α} {i : Nat} {x : α} (h : l[i]? = some x) : l.take (i + 1) = l.take i ++ [x] := by
  rw [List.take_add_one, h]; rfl
theorem get_lt {α : Type} {l : List α} {i : Nat} (h : i < l.length) : ∃ x, l[i]? = some x := ⟨_, List.getElem?_eq_getElem h⟩
end Go.Sx
namespace Go.Proofs.YtgckmifmjiklmaaGreat
open Go Go.Sx
def In64 (n : Int) : Prop := -9223372036854775808 ≤ n ∧ n ≤ 9223372036854775807
def pk (c k : Int) : Int := if c < 0 then Int.tmod (0 - (c + 1)) k else Int.tmod c k
theorem tmod_bd {a k : Int} (ha : 0 ≤ a) (hk : 0 < k) : 0 ≤ Int.tmod a k ∧ Int.tmod a k < k := ⟨Int.tmod_nonneg _ ha, Int.tmod_lt_of_pos _ hk⟩
theorem pk_bd (c : Int) {k : Int} (hk : 0 < k) : 0 ≤ pk c k ∧ pk c k < k := by
  unfold pk
  split
  · exact tmod_bd (by omega) hk
  · exact tmod_bd (by omega) hk
abbrev triR (x : Int × Int × Int) : List AV := [.int x.1, .int x.2.1, .int x.2.2]
end Go.Proofs.YtgckmifmjiklmaaGreat
namespace Go.Proofs.YtgckmifmjiklmaaGreat
open Go Go.Sx Go.Dial.Blk
abbrev bR (b : B3) : List AV := [.int b.f, .int b.t, .int b.c]
abbrev bL (l : List B3) : Lv := l.map bR
theorem bcell {l : List B3} {i : Nat} {b : B3} (h : l[i]? = some b) : cI (bL l) (i : Int) 0 = b.f ∧ cI (bL l) (i : Int) 1 = b.t ∧ cI (bL l) (i : Int) 2 = b.c := by
  have hc : ∀ k, cA (bL l) (i : Int) k = (bR b).getD k (.int 0) := fun k => cA_map (by simpa using h)
  refine ⟨?_, ?_, ?_⟩ <;> (simp only [cI, hc]; rfl)
theorem bdrop {α : Type} {l : List α} {i : Nat} {x : α} (h : l[i]? = some x) : l.drop i = x :: l.drop (i + 1) := by
  obtain ⟨hl, rfl⟩ := List.getElem?_eq_some_iff.1 h
  exact List.drop_eq_getElem_cons hl
/-- ascending, as a test -/
def ascB : Int → Int → List B3 → Bool
  | _, _, [] => true
  | e, k, b :: l => decide (0 ≤ b.f ∧ b.f < b.t ∧ b.t ≤ 100000000 ∧ 0 ≤ b.c ∧ b.c ≤ 7 ∧ e ≤ b.f ∧ (b.f = e → b.c ≠ k)) && ascB b.t b.c l
theorem ascB_iff : ∀ (l : List B3) (e k : Int), ascB e k l = true ↔ Dial.Blk.Asc e k l
  | [], _, _ => by simp [ascB, Dial.Blk.Asc]
  | b :: l, e, k => by
    rw [ascB, Bool.and_eq_true, ascB_iff l, decide_eq_true_eq, Dial.Blk.Asc]
    simp only [and_assoc]
def vldB (l : List B3) : Bool := decide (l.length ≤ 40) && ascB 0 (-1) l
theorem vldB_iff (l : List B3) : vldB l = true ↔ l.length ≤ 40 ∧ Canon l := by rw [vldB, Bool.and_eq_true, decide_eq_true_eq, ascB_iff]; rfl
theorem ref13_pick_v (n : Nat) {c k : Int} (hc : In64 c) (hk : 0 < k) : ref13_pick n c k = some (pk c k) := by
  unfold ref13_pick ref13_pick_1 pk
  unfold In64 at hc
  grind
/-- a drawn range -/
def pieceR (a b : Int) : Int × Int :=
  if pk a 8 = 7 then (1666666 * pk a 60, 1666666 * (pk a 60 + 1 + pk b (60 - pk a 60)) + 40) else (pk a 60, pk a 60 + 1 + pk b (60 - pk a 60))
theorem pieceR_bd (a b : Int) : 0 ≤ (pieceR a b).1 ∧ (pieceR a b).1 < (pieceR a b).2 ∧ (pieceR a b).2 ≤ 100000000 := by
  have h1 := pk_bd a (k := 60) (by decide)
  have h2 := pk_bd b (k := 60 - pk a 60) (by omega)
  unfold pieceR
  split <;> simp only <;> omega
theorem ref13_Piece_v (n : Nat) {a b : Int} (ha : In64 a) (hb : In64 b) : ref13_Piece n a b = some (pieceR a b) := by
  have h1 := pk_bd a (k := 60) (by decide)
  have h2 := pk_bd b (k := 60 - pk a 60) (by omega)
  unfold ref13_Piece ref13_Piece_1 pieceR
  rw [ref13_pick_v n ha (k := 60) (by decide), Option.bind_some, ref13_pick_v n hb (k := 60 - pk a 60) (by omega), Option.bind_some, ref13_pick_v n ha (k := 8) (by decide), Option.bind_some]
  generalize pk a 60 = x at *
  generalize pk b (60 - x) = y at *
  generalize pk a 8 = z at *
  grind
theorem ref13_holder_v (n : Nat) (l : List B3) (k : Int) (hn : l.length < n) (hl : l.length ≤ 1000) : ref13_holder n (bL l) k = some (hold l k) := by
  unfold ref13_holder ref13_holder_1
  refine iterF_ind (fun s => ∃ i : Nat, s = (i : Int) ∧ i ≤ l.length ∧ hold l k = hold (l.drop i) k) (fun s => l.length - s.toNat) _ ?_ n _ ⟨0, rfl, by omega, by simp⟩ (by simp; omega)
  rintro _ go ⟨i, rfl, hi, hE⟩ ih
  unfold ref13_holder_2
  by_cases hlt : i < l.length
  · obtain ⟨b, hb⟩ := get_lt hlt
    obtain ⟨g0, g1, g2⟩ := bcell hb
    have c1 : (i : Int) < (l.length : Int) := by omega
    have c2 : (0 : Int) ≤ (i : Int) := by omega
    have c4 : (-9223372036854775808 : Int) ≤ (i : Int) + 1 := by omega
    have c5 : (i : Int) + 1 ≤ (9223372036854775807 : Int) := by omega
    simp only [g0, g1, g2, List.length_map, c1, c2, c4, c5, decide_true, cond_true, Bool.and_self]
    rw [bdrop hb, hold] at hE
    have hgo : ¬ (b.f ≤ k ∧ k < b.t) → go ((i : Int) + 1) = some (hold l k) := fun hv => ih _ ⟨i + 1, by simp, by omega, by rw [hE, if_neg hv]⟩ (by omega)
    by_cases hv : b.f ≤ k ∧ k < b.t
    · rw [if_pos hv] at hE
      rw [hE]; grind
    · rw [hgo hv]; grind
  · have h0 : i = l.length := by omega
    have c1 : ¬ (i : Int) < (l.length : Int) := by omega
    rw [h0, List.drop_length] at hE
    simp only [List.length_map, c1, decide_false, cond_false]
    rw [hE]; rfl
theorem ref13_Valid_v (n : Nat) (l : List B3) (hn : 41 < n) : ref13_Valid n (bL l) = some (vldB l) := by
  unfold ref13_Valid ref13_Valid_1
  by_cases h3 : l.length ≤ 40
  · have c3 : ¬ (40 : Int) < (l.length : Int) := by omega
    have e3 : vldB l = ascB 0 (-1) l := by simp [vldB, h3]
    simp only [List.length_map, c3, decide_false, cond_false, e3]
    refine iterF_ind (fun s => ∃ (i : Nat) (e k : Int), s = (i : Int) ∧ i ≤ l.length ∧ ascB 0 (-1) l = ascB e k (l.drop i) ∧ (i = 0 → e = 0 ∧ k = -1) ∧ ∀ j, i = j + 1 → ∃ p, l[j]? = some p ∧ e = p.t ∧ k = p.c) (fun s => l.length - s.toNat) _ ?_ n _ ⟨0, 0, -1, rfl, by omega, by simp, fun _ => ⟨rfl, rfl⟩, fun j hj => by omega⟩ (by simp; omega)
    rintro _ go ⟨i, e, k, rfl, hi, hE, h0, hp⟩ ih
    unfold ref13_Valid_2
    by_cases hlt : i < l.length
    · obtain ⟨b, hb⟩ := get_lt hlt
      obtain ⟨g0, g1, g2⟩ := bcell hb
      have c1 : (i : Int) < (l.length : Int) := by omega
      have c2 : (0 : Int) ≤ (i : Int) := by omega
      have c4 : (-9223372036854775808 : Int) ≤ (i : Int) + 1 := by omega
      have c5 : (i : Int) + 1 ≤ (9223372036854775807 : Int) := by omega
      simp only [g0, g1, g2, List.length_map, c1, c2, c4, c5, decide_true, cond_true, Bool.and_self]
      rw [bdrop hb, ascB] at hE
      have hgo : (0 ≤ b.f ∧ b.f < b.t ∧ b.t ≤ 100000000 ∧ 0 ≤ b.c ∧ b.c ≤ 7 ∧ e ≤ b.f ∧ (b.f = e → b.c ≠ k)) → go ((i : Int) + 1) = some (ascB 0 (-1) l) := fun hv => ih _ ⟨i + 1, b.t, b.c, by simp, by omega, by rw [hE, decide_eq_true hv, Bool.true_and], fun h => by omega, fun j hj => ⟨b, by rw [show j = i by omega]; exact hb, rfl, rfl⟩⟩ (by omega)
      by_cases hv : (0 ≤ b.f ∧ b.f < b.t ∧ b.t ≤ 100000000 ∧ 0 ≤ b.c ∧ b.c ≤ 7 ∧ e ≤ b.f ∧ (b.f = e → b.c ≠ k))
      · rw [hgo hv]
        obtain ⟨v1, v2, v3, v4, v5, v6, v7⟩ := hv
        cases i with
        | zero => simp [v1, v2, v3, v4, v5]
        | succ j =>
          obtain ⟨p, hp1, rfl, rfl⟩ := hp j rfl
          obtain ⟨q0, q1, q2⟩ := bcell hp1
          have e1 : ((j + 1 : Nat) : Int) - 1 = (j : Int) := by omega
          simp only [e1, q1, q2]
          have d1 : (0 : Int) < ((j + 1 : Nat) : Int) := by omega
          have d2 : (0 : Int) ≤ (j : Int) := by omega
          have d3 : (j : Int) < (l.length : Int) := by omega
          have d4 : (-9223372036854775808 : Int) ≤ (j : Int) := by omega
          have d5 : (j : Int) ≤ (9223372036854775807 : Int) := by omega
          grind
      · have hf : ascB 0 (-1) l = false := by rw [hE, decide_eq_false hv, Bool.false_and]
        rw [hf]
        cases i with
        | zero =>
          obtain ⟨rfl, rfl⟩ := h0 rfl
          have : ¬ (0 ≤ b.f ∧ b.f < b.t ∧ b.t ≤ 100000000 ∧ 0 ≤ b.c ∧ b.c ≤ 7) := fun hh => hv ⟨hh.1, hh.2.1, hh.2.2.1, hh.2.2.2.1, hh.2.2.2.2, hh.1, fun _ => by omega⟩
          have d1 : ¬ (0 : Int) < ((0 : Nat) : Int) := by decide
          simp only [d1, decide_false, cond_false]
          grind
        | succ j =>
          obtain ⟨p, hp1, rfl, rfl⟩ := hp j rfl
          obtain ⟨q0, q1, q2⟩ := bcell hp1
          have e1 : ((j + 1 : Nat) : Int) - 1 = (j : Int) := by omega
          simp only [e1, q1, q2]
          have d1 : (0 : Int) < ((j + 1 : Nat) : Int) := by omega
          have d2 : (0 : Int) ≤ (j : Int) := by omega
          have d3 : (j : Int) < (l.length : Int) := by omega
          have d4 : (-9223372036854775808 : Int) ≤ (j : Int) := by omega
          have d5 : (j : Int) ≤ (9223372036854775807 : Int) := by omega
          grind
    · have h0 : i = l.length := by omega
      have c1 : ¬ (i : Int) < (l.length : Int) := by omega
      simp only [List.length_map, c1, decide_false, cond_false]
      rw [hE, h0, List.drop_length]; rfl
  · have c3 : (40 : Int) < (l.length : Int) := by omega
    have e3 : vldB l = false := by simp [vldB, h3]
    simp only [List.length_map, c3, decide_true, cond_true, e3]
end Go.Proofs.YtgckmifmjiklmaaGreat
namespace Go.Proofs.YtgckmifmjiklmaaGreat
open Go Go.Sx Go.Dial.Blk
abbrev iR (x : Int) : List AV := [.int x]
abbrev iL (l : List Int) : Lv := l.map iR
theorem icell {l : List Int} {i : Nat} {x : Int} (h : l[i]? = some x) : cI (iL l) (i : Int) 0 = x := by
  have hc : ∀ k, cA (iL l) (i : Int) k = (iR x).getD k (.int 0) := fun k => cA_map (by simpa using h)
  simp only [cI, hc]; rfl
theorem ref13_put_v (n : Nat) (l : List Int) (x : Int) (hn : l.length < n) (hl : l.length ≤ 1000) : ref13_put n (iL l) x = some (iL (putI l x)) := by
  unfold ref13_put ref13_put_1
  refine iterF_ind (fun s => ∃ i : Nat, s = (i : Int) ∧ i ≤ l.length ∧ putI l x = l.take i ++ putI (l.drop i) x) (fun s => l.length - s.toNat) _ ?_ n _ ⟨0, rfl, by omega, by simp⟩ (by simp; omega)
  rintro _ go ⟨i, rfl, hi, hE⟩ ih
  unfold ref13_put_2
  have ht : (i : Int).toNat = i := by omega
  have ht2 : ((iL l).length : Int).toNat = l.length := by simp
  have e1 : List.take l.length (iL l) = iL l := by rw [List.take_of_length_le (by simp)]
  have e2 : List.take i (iL l) ++ (([] : Lv) ++ [[AV.int x]] ++ List.drop i (iL l)) = iL (l.take i ++ x :: l.drop i) := by simp [iL, List.map_take, List.map_drop]
  by_cases hlt : i < l.length
  · obtain ⟨b, hb⟩ := get_lt hlt
    have g0 := icell hb
    have c1 : (i : Int) < ((iL l).length : Int) := by simp; omega
    have c2 : (0 : Int) ≤ (i : Int) := by omega
    have c3 : (i : Int) ≤ ((iL l).length : Int) := by omega
    have c4 : (-9223372036854775808 : Int) ≤ (i : Int) + 1 := by omega
    have c5 : (i : Int) + 1 ≤ (9223372036854775807 : Int) := by omega
    have c6 : ((iL l).length : Int) ≤ ((iL l).length : Int) := Int.le_refl _
    rw [bdrop hb, putI] at hE
    rw [decide_eq_true c1, cond_true, decide_eq_true c2, cond_true, g0]
    by_cases h1 : b < x
    · rw [decide_eq_true h1, cond_true, decide_eq_true c4, decide_eq_true c5, Bool.and_self, cond_true]
      exact ih _ ⟨i + 1, by simp, by omega, by rw [hE, if_pos h1, take_snoc hb]; simp⟩ (by first | omega | (simp only; omega))
    · rw [if_neg h1] at hE
      rw [decide_eq_false h1, cond_false]
      by_cases h2 : b = x
      · rw [decide_eq_true h2, cond_true, hE, if_pos h2]
        congr 2
        rw [← bdrop hb, List.take_append_drop]
      · rw [if_neg h2] at hE
        rw [decide_eq_false h2, cond_false, decide_eq_true c3, cond_true, decide_eq_true c6, cond_true, ht, ht2, e1, e2, ← bdrop hb] at *
        have k1 : (((([] : Lv) ++ [[AV.int x]] ++ List.drop i (iL l)).length : Int) * 8) ≤ 140737488355328 := by simp; omega
        have k2 : ((iL (l.take i ++ x :: l.drop i)).length : Int) * 8 ≤ 140737488355328 := by simp; omega
        rw [decide_eq_true k1, cond_true, decide_eq_true k2, cond_true, hE]
  · have h0 : i = l.length := by omega
    have c1 : ¬ (i : Int) < ((iL l).length : Int) := by simp; omega
    have c2 : (0 : Int) ≤ (i : Int) := by omega
    have c3 : (i : Int) ≤ ((iL l).length : Int) := by simp; omega
    have c6 : ((iL l).length : Int) ≤ ((iL l).length : Int) := Int.le_refl _
    have k1 : (((([] : Lv) ++ [[AV.int x]] ++ List.drop i (iL l)).length : Int) * 8) ≤ 140737488355328 := by simp; omega
    have k2 : ((iL (l.take i ++ x :: l.drop i)).length : Int) * 8 ≤ 140737488355328 := by simp; omega
    have hd : l.drop i = [] := by rw [h0]; exact List.drop_length
    rw [hd, putI] at hE
    rw [decide_eq_false c1, cond_false, decide_eq_true c2, cond_true, decide_eq_true c3, cond_true, decide_eq_true c6, cond_true, ht, ht2, e1, e2, decide_eq_true k1, cond_true, decide_eq_true k2, cond_true, hE, hd]
theorem putB_take {l : List B3} {o : List Int} {i : Nat} {b : B3} (h : l[i]? = some b) : putB o (l.take (i + 1)) = putI (putI (putB o (l.take i)) b.f) b.t := by
  rw [take_snoc h]; simp [putB, List.foldl_append]
theorem ref13_edges_v (n : Nat) (a b : List B3) (hn : 210 < n) (ha : a.length ≤ 41) (hb : b.length ≤ 41) : ref13_edges n (bL a) (bL b) = some (iL (edgesI a b)) := by
  have l1 : ∀ i, (putB [0, 100000000] (a.take i)).length ≤ 84 := fun i => by have := putB_len (a.take i) [0, 100000000]; simp at this; omega
  have l2 : ∀ i, (putB (putB [0, 100000000] a) (b.take i)).length ≤ 166 := fun i => by
    have h1 := putB_len (b.take i) (putB [0, 100000000] a)
    have h2 := putB_len a [0, 100000000]
    simp at h1 h2; omega
  unfold ref13_edges ref13_edges_1
  refine iterF_ind (fun s => ∃ i : Nat, s = (iL (putB [0, 100000000] (a.take i)), (i : Int)) ∧ i ≤ a.length) (fun s => a.length - s.2.toNat) _ ?_ n _ ⟨0, rfl, by omega⟩ (by simp; omega)
  rintro _ go ⟨i, rfl, hi⟩ ih
  simp only at ih ⊢
  unfold ref13_edges_2
  by_cases hlt : i < a.length
  · obtain ⟨c, hc⟩ := get_lt hlt
    obtain ⟨g0, g1, g2⟩ := bcell hc
    have c1 : (i : Int) < ((bL a).length : Int) := by simp; omega
    have c2 : (0 : Int) ≤ (i : Int) := by omega
    have c4 : (-9223372036854775808 : Int) ≤ (i : Int) + 1 := by omega
    have c5 : (i : Int) + 1 ≤ (9223372036854775807 : Int) := by omega
    have hl := l1 i
    have hl2 := putI_len (putB [0, 100000000] (a.take i)) c.f
    rw [decide_eq_true c1, cond_true, decide_eq_true c2, cond_true, g0, g1, ref13_put_v n _ _ (by omega) (by omega), Option.bind_some, ref13_put_v n _ _ (by omega) (by omega), Option.bind_some, decide_eq_true c4, decide_eq_true c5, Bool.and_self, cond_true, ← putB_take hc]
    exact ih _ ⟨i + 1, by simp, by omega⟩ (by first | omega | (simp only; omega))
  · have c1 : ¬ (i : Int) < ((bL a).length : Int) := by simp; omega
    rw [decide_eq_false c1, cond_false, List.take_of_length_le (by omega)]
    refine iterF_ind (fun s => ∃ i : Nat, s = (iL (putB (putB [0, 100000000] a) (b.take i)), (i : Int)) ∧ i ≤ b.length) (fun s => b.length - s.2.toNat) _ ?_ n _ ⟨0, rfl, by omega⟩ (by simp; omega)
    rintro _ go ⟨i, rfl, hi⟩ ih
    simp only at ih ⊢
    unfold ref13_edges_3
    by_cases hlt : i < b.length
    · obtain ⟨c, hc⟩ := get_lt hlt
      obtain ⟨g0, g1, g2⟩ := bcell hc
      have c1 : (i : Int) < ((bL b).length : Int) := by simp; omega
      have c2 : (0 : Int) ≤ (i : Int) := by omega
      have c4 : (-9223372036854775808 : Int) ≤ (i : Int) + 1 := by omega
      have c5 : (i : Int) + 1 ≤ (9223372036854775807 : Int) := by omega
      have hl := l2 i
      have hl2 := putI_len (putB (putB [0, 100000000] a) (b.take i)) c.f
      rw [decide_eq_true c1, cond_true, decide_eq_true c2, cond_true, g0, g1, ref13_put_v n _ _ (by omega) (by omega), Option.bind_some, ref13_put_v n _ _ (by omega) (by omega), Option.bind_some, decide_eq_true c4, decide_eq_true c5, Bool.and_self, cond_true, ← putB_take hc]
      exact ih _ ⟨i + 1, by simp, by omega⟩ (by first | omega | (simp only; omega))
    · have c1 : ¬ (i : Int) < ((bL b).length : Int) := by simp; omega
      rw [decide_eq_false c1, cond_false, List.take_of_length_le (by omega)]
      rfl
end Go.Proofs.YtgckmifmjiklmaaGreat
namespace Go.Proofs.YtgckmifmjiklmaaGreat
open Go Go.Sx Go.Dial.Blk
/-- a range laid behind a list of blocks: as the reference does it -/
def growF {α : Type} (go0 : Lv × Int → Option α) (v6 : Lv) (v7 P Q y : Int) : Option α :=
  (bif (decide (0 < (v6.length : Int))) then bif ((decide ((-9223372036854775808) ≤ ((v6.length : Int) - 1))) && (decide (((v6.length : Int) - 1) ≤ 9223372036854775807))) then bif (decide (0 ≤ (imax ((v6.length : Int) - 1) 0))) then bif (decide ((imax ((v6.length : Int) - 1) 0) < (v6.length : Int))) then (bif (decide ((cI v6 (imax ((v6.length : Int) - 1) 0) 1) = P)) then (bif (decide ((cI v6 (imax ((v6.length : Int) - 1) 0) 2) = y)) then bif (decide (0 ≤ (v7 + 1))) then bif (decide (0 ≤ ((v6.length : Int) - 1))) then bif (decide (((v6.length : Int) - 1) < (v6.length : Int))) then go0 ((List.modify v6 (((v6.length : Int) - 1)).toNat (fun r => r.set 1 (AV.int Q))), (v7 + 1)) else none else none else none
  else bif (decide (0 ≤ (v7 + 1))) then bif (decide ((((v6.length : Int) + 1) * 24) ≤ 140737488355328)) then go0 ((v6 ++ [[(AV.int P), (AV.int Q), (AV.int y)]]), (v7 + 1)) else none else none)
  else bif (decide (0 ≤ (v7 + 1))) then bif (decide ((((v6.length : Int) + 1) * 24) ≤ 140737488355328)) then go0 ((v6 ++ [[(AV.int P), (AV.int Q), (AV.int y)]]), (v7 + 1)) else none else none) else none else none else none
  else bif (decide (0 ≤ (v7 + 1))) then bif (decide ((((v6.length : Int) + 1) * 24) ≤ 140737488355328)) then go0 ((v6 ++ [[(AV.int P), (AV.int Q), (AV.int y)]]), (v7 + 1)) else none else none)
theorem bL_app (l m : List B3) : bL (l ++ m) = bL l ++ bL m := List.map_append
theorem mod_last {α : Type} (l : List α) (x : α) (f : α → α) : (l ++ [x]).modify l.length f = l ++ [f x] := by
  induction l with
  | nil => rfl
  | cons a l ih =>
    show (a :: (l ++ [x])).modify (l.length + 1) f = a :: (l ++ [f x])
    rw [List.modify_succ_cons, ih]
theorem bmod (l : List B3) (y : B3) (q : Int) : List.modify (bL (l ++ [y])) l.length (fun r => r.set 1 (AV.int q)) = bL (l ++ [⟨y.f, q, y.c⟩]) := by
  rw [bL_app, bL_app]
  have := mod_last (bL l) (bR y) (fun r => r.set 1 (AV.int q))
  rw [show (bL l).length = l.length by simp] at this
  exact this
theorem grow_v {α : Type} (go0 : Lv × Int → Option α) (o : List B3) (i : Nat) (p q y : Int) (hy : 0 ≤ y) (hl : o.length ≤ 1000) : growF go0 (bL o) (i : Int) p q y = go0 (bL (Dial.Blk.step o p q y), (i : Int) + 1) := by
  have c2 : (0 : Int) ≤ (i : Int) + 1 := by omega
  have hy1 : y ≠ -1 := by omega
  unfold growF
  rcases List.eq_nil_or_concat o with rfl | ⟨l, b, rfl⟩
  · rw [step_nil _ _ _ hy1, decide_eq_false (by simp : ¬ (0 : Int) < ((bL []).length : Int)), cond_false, decide_eq_true c2, cond_true, decide_eq_true (by simp : (((bL []).length : Int) + 1) * 24 ≤ 140737488355328), cond_true]
    rfl
  · rw [List.concat_eq_append] at *
    have hb : (l ++ [b])[l.length]? = some b := by simp
    obtain ⟨g0, g1, g2⟩ := bcell hb
    have hlen : ((bL (l ++ [b])).length : Int) = (l.length : Int) + 1 := by simp
    have hle : l.length ≤ 1000 := by simp at hl; omega
    have e1 : ((bL (l ++ [b])).length : Int) - 1 = (l.length : Int) := by omega
    have e2 : imax (((bL (l ++ [b])).length : Int) - 1) 0 = (l.length : Int) := by rw [e1]; unfold imax; split <;> omega
    have e3 : (l.length : Int).toNat = l.length := by omega
    rw [e2, e1, g1, g2, e3, bmod]
    have k1 : (0 : Int) < ((bL (l ++ [b])).length : Int) := by omega
    have k2 : (-9223372036854775808 : Int) ≤ (l.length : Int) := by omega
    have k3 : (l.length : Int) ≤ 9223372036854775807 := by omega
    have k4 : (0 : Int) ≤ (l.length : Int) := by omega
    have k5 : (l.length : Int) < ((bL (l ++ [b])).length : Int) := by omega
    have k6 : (((bL (l ++ [b])).length : Int) + 1) * 24 ≤ 140737488355328 := by omega
    rw [step_snoc _ _ _ _ _ hy1, decide_eq_true k1, cond_true, decide_eq_true k2, decide_eq_true k3, Bool.and_self, cond_true, decide_eq_true k4, cond_true, decide_eq_true k5, cond_true, decide_eq_true c2, decide_eq_true k6]
    simp only [cond_true]
    by_cases h1 : b.t = p
    · by_cases h2 : b.c = y
      · rw [decide_eq_true h1, decide_eq_true h2, if_pos ⟨h1, h2⟩, ← h2]; simp only [cond_true]
      · rw [decide_eq_true h1, decide_eq_false h2, if_neg (fun h => h2 h.2)]; simp only [cond_true, cond_false]; rw [bL_app (l ++ [b])]; rfl
    · rw [decide_eq_false h1, if_neg (fun h => h1 h.1)]; simp only [cond_false]; rw [bL_app (l ++ [b])]; rfl
/-- what the reference's combine makes of two holders -/
def gcR (w f t x y : Int) : Int :=
  if w = 1 ∧ 0 ≤ y then -1 else
  if (w = 0 ∧ 0 ≤ y) ∨ (w = 2 ∧ y < 0) then (if 0 ≤ y ∧ y = f then t else y) else (if 0 ≤ x ∧ x = f then t else x)
theorem comb6 (n : Nat) (go : Lv × Int → Option ref13_combine_a) (v3 v4 : Int) (E : List Int) (o : List B3) (i : Nat) (x p q : Int) (hp : E[i]? = some p) (hq : E[i + 1]? = some q) (hx : -1 ≤ x) (h4 : -1 ≤ v4) (hl : o.length ≤ 1000) :
    ref13_combine_6 n go v3 v4 (iL E) (bL o) (i : Int) x = go (bL (Dial.Blk.step o p q (if 0 ≤ x ∧ x = v3 then v4 else x)), (i : Int) + 1) := by
  have hP : cI (iL E) (i : Int) 0 = p := icell hp
  have hQ : cI (iL E) ((i : Int) + 1) 0 = q := icell (i := i + 1) hq
  unfold ref13_combine_6
  rw [hP, hQ]
  by_cases h0 : 0 ≤ x
  · rw [decide_eq_true h0, cond_true]
    by_cases h1 : x = v3
    · rw [decide_eq_true h1, cond_true, if_pos ⟨h0, h1⟩]
      by_cases h2 : v4 < 0
      · have : v4 = -1 := by omega
        rw [decide_eq_true h2, cond_true, this, step_none]
      · rw [decide_eq_false h2, cond_false]
        exact grow_v go o i p q v4 (by omega) hl
    · rw [decide_eq_false h1, cond_false, if_neg (fun h => h1 h.2), decide_eq_false (by omega : ¬ x < 0), cond_false]
      exact grow_v go o i p q x h0 hl
  · have : x = -1 := by omega
    subst this
    rw [if_neg (by omega), step_none]
    rfl
theorem comb4 (n : Nat) (go : Lv × Int → Option ref13_combine_a) (w v3 v4 : Int) (hw : w = 0 ∨ w = 1 ∨ w = 2) (E : List Int) (o : List B3) (i : Nat) (x y p q : Int) (hp : E[i]? = some p) (hq : E[i + 1]? = some q) (hx : -1 ≤ x) (hy : -1 ≤ y) (h4 : -1 ≤ v4) (hl : o.length ≤ 1000) :
    ref13_combine_4 n go w v3 v4 (iL E) (bL o) (i : Int) x y = go (bL (Dial.Blk.step o p q (gcR w v3 v4 x y)), (i : Int) + 1) := by
  unfold gcR
  have hX := comb6 n go v3 v4 E o i x p q hp hq hx h4 hl
  unfold ref13_combine_4
  rcases hw with rfl | rfl | rfl
  · rw [decide_eq_true rfl, cond_true]
    unfold ref13_combine_5
    by_cases h0 : 0 ≤ y
    · have hY := comb6 n go v3 v4 E o i y p q hp hq hy h4 hl
      unfold ref13_combine_6 at hY
      rw [decide_eq_true h0, cond_true] at hY ⊢
      rw [if_neg (by omega), if_pos (by omega)]
      exact hY
    · rw [decide_eq_false h0, cond_false, if_neg (by omega), if_neg (by omega)]
      exact hX
  · rw [decide_eq_false (by decide), cond_false]
    unfold ref13_combine_7
    rw [decide_eq_true rfl, cond_true]
    unfold ref13_combine_8
    by_cases h0 : 0 ≤ y
    · rw [decide_eq_true h0, cond_true, if_pos ⟨rfl, h0⟩, step_none]
    · rw [decide_eq_false h0, cond_false, if_neg (by omega), if_neg (by omega)]
      exact hX
  · rw [decide_eq_false (by decide), cond_false]
    unfold ref13_combine_7
    rw [decide_eq_false (by decide), cond_false]
    unfold ref13_combine_10
    rw [decide_eq_true rfl, cond_true]
    unfold ref13_combine_11
    by_cases h0 : y < 0
    · have : y = -1 := by omega
      subst this
      rw [if_neg (by omega), if_pos (by omega), if_neg (by omega), step_none]
      rfl
    · rw [decide_eq_false h0, cond_false, if_neg (by omega), if_neg (by omega)]
      exact hX
theorem gcR_bd {w f t x y : Int} (hx : -1 ≤ x ∧ x ≤ 7) (hy : -1 ≤ y ∧ y ≤ 7) (ht : -1 ≤ t ∧ t ≤ 7) : -1 ≤ gcR w f t x y ∧ gcR w f t x y ≤ 7 := by
  unfold gcR
  repeat' split
  all_goals omega
theorem ref13_combine_v (n : Nat) (a b : List B3) (w v3 v4 : Int) (ha : Canon a) (hb : Canon b) (hal : a.length ≤ 41) (hbl : b.length ≤ 41) (hw : w = 0 ∨ w = 1 ∨ w = 2) (h4 : -1 ≤ v4 ∧ v4 ≤ 7) (hn : 210 < n) :
    ref13_combine n (bL a) (bL b) w v3 v4 = some (bL (combR fun m => gcR w v3 v4 (hold a m) (hold b m)).1, (combR fun m => gcR w v3 v4 (hold a m) (hold b m)).2) ∧ IsMap (fun m => gcR w v3 v4 (hold a m) (hold b m)) (mapOf fun m => gcR w v3 v4 (hold a m) (hold b m)) := by
  obtain ⟨g, hg⟩ : ∃ g : Int → Int, g = fun m => gcR w v3 v4 (hold a m) (hold b m) := ⟨_, rfl⟩
  rw [← hg]
  obtain ⟨E, hE⟩ : ∃ E, E = edgesI a b := ⟨_, rfl⟩
  have hEd := edges_of ha hb
  have hEl : E.length ≤ 166 := by
    rw [hE]
    have h1 := putB_len b (putB [0, 100000000] a)
    have h2 := putB_len a [0, 100000000]
    show (putB (putB [0, 100000000] a) b).length ≤ 166
    simp at h2; omega
  rw [← hE] at hEd
  -- the fold
  have fold : ∀ k, k < E.length → ∃ o, (∃ p, E[k]? = some p ∧ Upto g p o) ∧ o.length ≤ k ∧ o = (List.range k).foldl (fun o i => Dial.Blk.step o (E.getD i 0) (E.getD (i + 1) 0) (g (E.getD i 0))) [] := by
    intro k
    induction k with
    | zero => intro _; exact ⟨[], ⟨0, hEd.first, Upto.nil g⟩, by simp, rfl⟩
    | succ k ih =>
      intro hk
      obtain ⟨o, ⟨p, hp, ho⟩, hol, hof⟩ := ih (by omega)
      obtain ⟨q, hq⟩ := get_lt (l := E) (i := k + 1) hk
      have hpq := sorted_get hEd.sorted hp hq (by omega)
      have hq2 : q ≤ 100000000 := by
        rcases Nat.lt_or_ge (k + 1) (E.length - 1) with h | h
        · have := sorted_get hEd.sorted hq hEd.last h; omega
        · have : k + 1 = E.length - 1 := by omega
          rw [this, hEd.last] at hq; cases hq; omega
      have hp0 : 0 ≤ p := by
        rcases Nat.eq_zero_or_pos k with h | h
        · subst h; rw [hEd.first] at hp; cases hp; omega
        · have := sorted_get hEd.sorted hEd.first hp h; omega
      have hr1 := hold_range ha p
      have hr2 := hold_range hb p
      have hs := ho.step hp0 hpq hq2 (k := g p) (by rw [hg]; exact gcR_bd hr1 hr2 h4) (fun m h1 h2 => by
        rw [hg]
        show gcR _ _ _ _ _ = gcR _ _ _ _ _
        rw [between ha hEd.sorted (fun c hc => hEd.mem c (.inl hc)) hp hq m h1 h2, between hb hEd.sorted (fun c hc => hEd.mem c (.inr hc)) hp hq m h1 h2])
      refine ⟨Dial.Blk.step o p q (g p), ⟨q, hq, hs⟩, ?_, ?_⟩
      · have := step_len o p q (g p); omega
      · rw [List.range_succ, List.foldl_append, ← hof]
        simp [List.getD, hp, hq]
  obtain ⟨o, ⟨p, hp, ho⟩, hol, hof⟩ := fold (E.length - 1) (by have := hEd.two; omega)
  rw [hEd.last] at hp; cases hp
  have hmap := mapOf_eq ho.isMap
  have hv : vldB o = decide (o.length ≤ 40) := by
    have : ascB 0 (-1) o = true := (ascB_iff o 0 (-1)).2 ho.1
    rw [vldB, this, Bool.and_true]
  refine ⟨?_, by rw [hmap]; exact ho.isMap⟩
  unfold combR
  rw [hmap]
  unfold ref13_combine ref13_combine_1
  rw [ref13_edges_v n a b hn hal hbl, Option.bind_some, ← hE]
  refine iterF_ind (fun s => ∃ i : Nat, s = (bL ((List.range i).foldl (fun o i => Dial.Blk.step o (E.getD i 0) (E.getD (i + 1) 0) (g (E.getD i 0))) []), (i : Int)) ∧ i ≤ E.length - 1) (fun s => E.length - s.2.toNat) _ ?_ n _ ⟨0, rfl, by omega⟩ (by simp; omega)
  rintro _ go ⟨i, rfl, hi⟩ ih
  simp only at ih ⊢
  have htwo := hEd.two
  have c4 : (-9223372036854775808 : Int) ≤ (i : Int) + 1 := by omega
  have c5 : (i : Int) + 1 ≤ (9223372036854775807 : Int) := by omega
  unfold ref13_combine_2
  rw [decide_eq_true c4, decide_eq_true c5, Bool.and_self, cond_true]
  unfold ref13_combine_3
  by_cases hlt : i + 1 < E.length
  · obtain ⟨o', ⟨p, hp, _⟩, hol', hof'⟩ := fold i (by omega)
    obtain ⟨q, hq⟩ := get_lt (l := E) (i := i + 1) hlt
    have c1 : (i : Int) + 1 < ((iL E).length : Int) := by simp; omega
    have c2 : (0 : Int) ≤ (i : Int) := by omega
    have c3 : (i : Int) < ((iL E).length : Int) := by omega
    have hr1 := hold_range ha p
    have hr2 := hold_range hb p
    rw [← hof', decide_eq_true c1, cond_true, decide_eq_true c2, cond_true, decide_eq_true c3, cond_true, icell hp, ref13_holder_v n a p (by omega) (by omega), Option.bind_some, ref13_holder_v n b p (by omega) (by omega), Option.bind_some,
      comb4 n go w v3 v4 hw E o' i _ _ p q hp hq (by omega) (by omega) h4.1 (by omega)]
    refine ih _ ⟨i + 1, ?_, by omega⟩ (by first | omega | (simp only; omega))
    rw [List.range_succ, List.foldl_append, ← hof']
    simp [List.getD, hp, hq, hg]
  · have hie : i = E.length - 1 := by omega
    have c1 : ¬ (i : Int) + 1 < ((iL E).length : Int) := by simp; omega
    rw [hie, ← hof, ← hie, decide_eq_false c1, cond_false, ref13_Valid_v n o (by omega), Option.bind_some, hv]
    by_cases h40 : o.length ≤ 40
    · rw [decide_eq_true h40, if_pos h40]; rfl
    · rw [decide_eq_false h40, if_neg h40]; rfl
end Go.Proofs.YtgckmifmjiklmaaGreat
namespace Go.Proofs.YtgckmifmjiklmaaGreat
open Go Go.Sx Go.Dial.Blk
theorem canon_one {f t c : Int} (h0 : 0 ≤ f) (h1 : f < t) (h2 : t ≤ 100000000) (h3 : 0 ≤ c) (h4 : c ≤ 7) : Canon [⟨f, t, c⟩] := ⟨h0, h1, h2, h3, h4, h0, fun _ => by show c ≠ -1; omega, trivial⟩
theorem combR_ok {g : Int → Int} (h : IsMap g (mapOf g)) : Canon (combR g).1 ∧ (combR g).1.length ≤ 40 := by
  unfold combR
  split
  · rename_i hl; exact ⟨h.1, hl⟩
  · exact ⟨trivial, by simp⟩
theorem ref13_Give_v (n : Nat) (l : List B3) (f t c : Int) (hc : Canon l) (hl : l.length ≤ 40) (h0 : 0 ≤ f) (h1 : f < t) (h2 : t ≤ 100000000) (h3 : 0 ≤ c) (h4 : c ≤ 7) (hn : 210 < n) :
    ref13_Give n (bL l) f t c = some (bL (combR fun m => gcR 0 (-1) (-1) (hold l m) (hold [⟨f, t, c⟩] m)).1, (combR fun m => gcR 0 (-1) (-1) (hold l m) (hold [⟨f, t, c⟩] m)).2) ∧ IsMap (fun m => gcR 0 (-1) (-1) (hold l m) (hold [⟨f, t, c⟩] m)) (mapOf fun m => gcR 0 (-1) (-1) (hold l m) (hold [⟨f, t, c⟩] m)) := by
  have hV : vldB l = true := (vldB_iff l).2 ⟨hl, hc⟩
  obtain ⟨e1, e2⟩ := ref13_combine_v n l [⟨f, t, c⟩] 0 (-1) (-1) hc (canon_one h0 h1 h2 h3 h4) (by omega) (by simp) (.inl rfl) (by decide) hn
  refine ⟨?_, e2⟩
  unfold ref13_Give ref13_Give_1
  rw [ref13_Valid_v n l (by omega), Option.bind_some, hV, Bool.not_true, cond_false, decide_eq_true h0, cond_true, decide_eq_true h1, cond_true, decide_eq_true h2, Bool.not_true, cond_false, decide_eq_true h3, cond_true, decide_eq_true h4, Bool.not_true, cond_false]
  have : ([] : Lv) ++ [[AV.int f, AV.int t, AV.int c]] = bL [⟨f, t, c⟩] := rfl
  rw [this, e1]; rfl
theorem ref13_Take_v (n : Nat) (l : List B3) (f t : Int) (hc : Canon l) (hl : l.length ≤ 40) (h0 : 0 ≤ f) (h1 : f < t) (h2 : t ≤ 100000000) (hn : 210 < n) :
    ref13_Take n (bL l) f t = some (bL (combR fun m => gcR 1 (-1) (-1) (hold l m) (hold [⟨f, t, 0⟩] m)).1, (combR fun m => gcR 1 (-1) (-1) (hold l m) (hold [⟨f, t, 0⟩] m)).2) ∧ IsMap (fun m => gcR 1 (-1) (-1) (hold l m) (hold [⟨f, t, 0⟩] m)) (mapOf fun m => gcR 1 (-1) (-1) (hold l m) (hold [⟨f, t, 0⟩] m)) := by
  have hV : vldB l = true := (vldB_iff l).2 ⟨hl, hc⟩
  obtain ⟨e1, e2⟩ := ref13_combine_v n l [⟨f, t, 0⟩] 1 (-1) (-1) hc (canon_one h0 h1 h2 (by decide) (by decide)) (by omega) (by simp) (.inr (.inl rfl)) (by decide) hn
  refine ⟨?_, e2⟩
  unfold ref13_Take ref13_Take_1
  rw [ref13_Valid_v n l (by omega), Option.bind_some, hV, Bool.not_true, cond_false, decide_eq_true h0, cond_true, decide_eq_true h1, cond_true, decide_eq_true h2, Bool.not_true, cond_false]
  have : ([] : Lv) ++ [[AV.int f, AV.int t, AV.int 0]] = bL [⟨f, t, 0⟩] := rfl
  rw [this, e1]; rfl
theorem ref13_Made_v (n : Nat) (xs : List (Int × Int × Int)) (hx : ∀ x ∈ xs, In64 x.1 ∧ In64 x.2.1 ∧ In64 x.2.2) (hn : 210 < n) : ∃ l, ref13_Made n (xs.map triR) = some (bL l) ∧ Canon l ∧ l.length ≤ 40 := by
  have main : ∃ q, ref13_Made n (xs.map triR) = some q ∧ ∃ l, q = bL l ∧ Canon l ∧ l.length ≤ 40 := by
    unfold ref13_Made ref13_Made_1
    refine iterF_ex (fun s => ∃ (i : Nat) (l : List B3), s = (bL l, (i : Int)) ∧ i ≤ xs.length ∧ i ≤ 12 ∧ Canon l ∧ l.length ≤ 40) (fun s => 12 - s.2.toNat) _ ?_ n _ ⟨0, [], rfl, by omega, by omega, trivial, by simp⟩ (by simp; omega)
    rintro _ go ⟨i, l, rfl, hi, h12, hc, hl⟩ ih
    simp only at ih ⊢
    unfold ref13_Made_2
    by_cases hlt : i < xs.length
    · obtain ⟨x, hxx⟩ := get_lt hlt
      have hcell : ∀ k, cA (xs.map triR) (i : Int) k = (triR x).getD k (.int 0) := fun k => cA_map (by simpa using hxx)
      have g0 : cI (xs.map triR) i 0 = x.1 := by simp only [cI, hcell]; rfl
      have g1 : cI (xs.map triR) i 1 = x.2.1 := by simp only [cI, hcell]; rfl
      have g2 : cI (xs.map triR) i 2 = x.2.2 := by simp only [cI, hcell]; rfl
      obtain ⟨x0, x1, x2⟩ := hx x (List.mem_of_getElem? hxx)
      have c1 : (i : Int) < ((xs.map triR).length : Int) := by rw [List.length_map]; omega
      have c2 : (0 : Int) ≤ (i : Int) := by omega
      have c4 : (-9223372036854775808 : Int) ≤ (i : Int) + 1 := by omega
      have c5 : (i : Int) + 1 ≤ (9223372036854775807 : Int) := by omega
      obtain ⟨p0, p1, p2⟩ := pieceR_bd x.1 x.2.1
      have hk := pk_bd x.2.2 (k := 5) (by decide)
      by_cases h2 : (i : Int) < 12
      · rw [decide_eq_true c1, cond_true, decide_eq_true h2, cond_true, decide_eq_true c2, cond_true, g0, g1, g2, ref13_Piece_v n x0 x1, Option.bind_some, ref13_pick_v n x2 (by decide), Option.bind_some]
        by_cases h3 : pk x.2.2 5 < 4
        · have d1 : (-9223372036854775808 : Int) ≤ 2 * pk x.2.2 5 := by omega
          have d2 : 2 * pk x.2.2 5 ≤ (9223372036854775807 : Int) := by omega
          obtain ⟨e1, e2⟩ := ref13_Give_v n l _ _ (2 * pk x.2.2 5) hc hl p0 p1 p2 (by omega) (by omega) hn
          obtain ⟨o1, o2⟩ := combR_ok e2
          rw [decide_eq_true h3, cond_true, decide_eq_true d1, decide_eq_true d2, Bool.and_self, cond_true, e1, Option.bind_some, decide_eq_true c4, decide_eq_true c5, Bool.and_self, cond_true]
          exact ih _ ⟨i + 1, _, by simp only; rfl, by omega, by omega, o1, o2⟩ (by first | omega | (simp only; omega))
        · obtain ⟨e1, e2⟩ := ref13_Take_v n l _ _ hc hl p0 p1 p2 hn
          obtain ⟨o1, o2⟩ := combR_ok e2
          rw [decide_eq_false h3, cond_false, e1, Option.bind_some, decide_eq_true c4, decide_eq_true c5, Bool.and_self, cond_true]
          exact ih _ ⟨i + 1, _, by simp only; rfl, by omega, by omega, o1, o2⟩ (by first | omega | (simp only; omega))
      · rw [decide_eq_true c1, cond_true, decide_eq_false h2, cond_false]
        exact ⟨_, rfl, l, rfl, hc, hl⟩
    · have c1 : ¬ (i : Int) < ((xs.map triR).length : Int) := by rw [List.length_map]; omega
      rw [decide_eq_false c1, cond_false]
      exact ⟨_, rfl, l, rfl, hc, hl⟩
  obtain ⟨_, h1, l, rfl, h2, h3⟩ := main
  exact ⟨l, h1, h2, h3⟩
end Go.Proofs.YtgckmifmjiklmaaGreat
