/-
  Texts of this claim, joined (part 6).
-/
import Derived.Test.YtjllgiddmeiaoaaGreatK5
set_option linter.unusedVariables false
set_option linter.unusedSimpArgs false
set_option linter.unusedSectionVars false
set_option linter.constructorNameAsVariable false
set_option maxRecDepth 100000
namespace Go.Proofs.YtjllgiddmeiaoaaGreat
open Go Go.Sx Go.Dial.Blk
abbrev bR (b : B3) : List AV := [.int b.f, .int b.t, .int b.c]
abbrev bL (l : List B3) : Lv := l.map bR
theorem bcell {l : List B3} {i : Nat} {b : B3} (h : l[i]? = some b) : cI (bL l) (i : Int) 0 = b.f ∧ cI (bL l) (i : Int) 1 = b.t ∧ cI (bL l) (i : Int) 2 = b.c := by
 have hc : ∀ k, cA (bL l) (i : Int) k = (bR b).getD k (.int 0) := fun k => cA_map (by simpa using h)
 refine ⟨?_, ?_, ?_⟩ <;> (simp only [cI, hc]; rfl)
theorem bdrop {α : Type} {l : List α} {i : Nat} {x : α} (h : l[i]? = some x) : l.drop i = x :: l.drop (i + 1) := by
 obtain ⟨hl, rfl⟩ := List.getElem?_eq_some_iff.1 h
 exact List.drop_eq_getElem_cons hl
def ascB : Int → Int → List B3 → Bool
 | _, _, [] => true
 | e, k, b :: l => decide (0 ≤ b.f ∧ b.f < b.t ∧ b.t ≤ 100000000 ∧ 0 ≤ b.c ∧ b.c ≤ 7 ∧ e ≤ b.f ∧ (b.f = e → b.c ≠ k)) && ascB b.t b.c l
theorem ascB_iff : ∀ (l : List B3) (e k : Int), ascB e k l = true ↔ Dial.Blk.Asc e k l
 | [], _, _ => by simp [ascB, Dial.Blk.Asc]
 | b :: l, e, k => by
  rw [ascB, Bool.and_eq_true, ascB_iff l, decide_eq_true_eq, Dial.Blk.Asc]
  simp only [and_assoc]
def vldB (l : List B3) : Bool := decide (l.length ≤ 40) && ascB 0 (-1) l
theorem vldB_iff (l : List B3) : vldB l = true ↔ l.length ≤ 40 ∧ Canon l := by rw [vldB, Bool.and_eq_true, decide_eq_true_eq, ascB_iff]; rfl
theorem ref13_pick_v (n : Nat) {c k : Int} (hc : In64 c) (hk : 0 < k) : ref13_pick n c k = some (pk c k) := by
 unfold ref13_pick ref13_pick_1 pk
 unfold In64 at hc
 grind
def pieceR (a b : Int) : Int × Int :=
 if pk a 8 = 7 then (1666666 * pk a 60, 1666666 * (pk a 60 + 1 + pk b (60 - pk a 60)) + 40) else (pk a 60, pk a 60 + 1 + pk b (60 - pk a 60))
theorem pieceR_bd (a b : Int) : 0 ≤ (pieceR a b).1 ∧ (pieceR a b).1 < (pieceR a b).2 ∧ (pieceR a b).2 ≤ 100000000 := by
 have h1 := pk_bd a (k := 60) (by decide)
 have h2 := pk_bd b (k := 60 - pk a 60) (by omega)
 unfold pieceR
 split <;> simp only <;> omega
theorem ref13_Piece_v (n : Nat) {a b : Int} (ha : In64 a) (hb : In64 b) : ref13_Piece n a b = some (pieceR a b) := by
 have h1 := pk_bd a (k := 60) (by decide)
 have h2 := pk_bd b (k := 60 - pk a 60) (by omega)
 unfold ref13_Piece ref13_Piece_1 pieceR
 rw [ref13_pick_v n ha (k := 60) (by decide), Option.bind_some, ref13_pick_v n hb (k := 60 - pk a 60) (by omega), Option.bind_some, ref13_pick_v n ha (k := 8) (by decide), Option.bind_some]
 generalize pk a 60 = x at *
 generalize pk b (60 - x) = y at *
 generalize pk a 8 = z at *
 grind
theorem ref13_holder_v (n : Nat) (l : List B3) (k : Int) (hn : l.length < n) (hl : l.length ≤ 1000) : ref13_holder n (bL l) k = some (hold l k) := by
 unfold ref13_holder ref13_holder_1
 refine iterF_ind (fun s => ∃ i : Nat, s = (i : Int) ∧ i ≤ l.length ∧ hold l k = hold (l.drop i) k) (fun s => l.length - s.toNat) _ ?_ n _ ⟨0, rfl, by omega, by simp⟩ (by simp; omega)
 rintro _ go ⟨i, rfl, hi, hE⟩ ih
 unfold ref13_holder_2
 by_cases hlt : i < l.length
 ·obtain ⟨b, hb⟩ := get_lt hlt
  obtain ⟨g0, g1, g2⟩ := bcell hb
  have c1 : (i : Int) < (l.length : Int) := by omega
  have c2 : (0 : Int) ≤ (i : Int) := by omega
  have c4 : (-9223372036854775808 : Int) ≤ (i : Int) + 1 := by omega
  have c5 : (i : Int) + 1 ≤ (9223372036854775807 : Int) := by omega
  simp only [g0, g1, g2, List.length_map, c1, c2, c4, c5, decide_true, cond_true, Bool.and_self]
  rw [bdrop hb, hold] at hE
  have hgo : ¬ (b.f ≤ k ∧ k < b.t) → go ((i : Int) + 1) = some (hold l k) := fun hv => ih _ ⟨i + 1, by simp, by omega, by rw [hE, if_neg hv]⟩ (by omega)
  by_cases hv : b.f ≤ k ∧ k < b.t
  ·rw [if_pos hv] at hE
   rw [hE]; grind
  ·rw [hgo hv]; grind
 ·have h0 : i = l.length := by omega
  have c1 : ¬ (i : Int) < (l.length : Int) := by omega
  rw [h0, List.drop_length] at hE
  simp only [List.length_map, c1, decide_false, cond_false]
  rw [hE]; rfl
theorem ref13_Valid_v (n : Nat) (l : List B3) (hn : 41 < n) : ref13_Valid n (bL l) = some (vldB l) := by
 unfold ref13_Valid ref13_Valid_1
 by_cases h3 : l.length ≤ 40
 ·have c3 : ¬ (40 : Int) < (l.length : Int) := by omega
  have e3 : vldB l = ascB 0 (-1) l := by simp [vldB, h3]
  simp only [List.length_map, c3, decide_false, cond_false, e3]
  refine iterF_ind (fun s => ∃ (i : Nat) (e k : Int), s = (i : Int) ∧ i ≤ l.length ∧ ascB 0 (-1) l = ascB e k (l.drop i) ∧ (i = 0 → e = 0 ∧ k = -1) ∧ ∀ j, i = j + 1 → ∃ p, l[j]? = some p ∧ e = p.t ∧ k = p.c) (fun s => l.length - s.toNat) _ ?_ n _ ⟨0, 0, -1, rfl, by omega, by simp, fun _ => ⟨rfl, rfl⟩, fun j hj => by omega⟩ (by simp; omega)
  rintro _ go ⟨i, e, k, rfl, hi, hE, h0, hp⟩ ih
  unfold ref13_Valid_2
  by_cases hlt : i < l.length
  ·obtain ⟨b, hb⟩ := get_lt hlt
   obtain ⟨g0, g1, g2⟩ := bcell hb
   have c1 : (i : Int) < (l.length : Int) := by omega
   have c2 : (0 : Int) ≤ (i : Int) := by omega
   have c4 : (-9223372036854775808 : Int) ≤ (i : Int) + 1 := by omega
   have c5 : (i : Int) + 1 ≤ (9223372036854775807 : Int) := by omega
   simp only [g0, g1, g2, List.length_map, c1, c2, c4, c5, decide_true, cond_true, Bool.and_self]
   rw [bdrop hb, ascB] at hE
   have hgo : (0 ≤ b.f ∧ b.f < b.t ∧ b.t ≤ 100000000 ∧ 0 ≤ b.c ∧ b.c ≤ 7 ∧ e ≤ b.f ∧ (b.f = e → b.c ≠ k)) → go ((i : Int) + 1) = some (ascB 0 (-1) l) := fun hv => ih _ ⟨i + 1, b.t, b.c, by simp, by omega, by rw [hE, decide_eq_true hv, Bool.true_and], fun h => by omega, fun j hj => ⟨b, by rw [show j = i by omega]; exact hb, rfl, rfl⟩⟩ (by omega)
   by_cases hv : (0 ≤ b.f ∧ b.f < b.t ∧ b.t ≤ 100000000 ∧ 0 ≤ b.c ∧ b.c ≤ 7 ∧ e ≤ b.f ∧ (b.f = e → b.c ≠ k))
   ·rw [hgo hv]
    obtain ⟨v1, v2, v3, v4, v5, v6, v7⟩ := hv
    cases i with
    | zero => simp [v1, v2, v3, v4, v5]
    | succ j =>
     obtain ⟨p, hp1, rfl, rfl⟩ := hp j rfl
     obtain ⟨q0, q1, q2⟩ := bcell hp1
     have e1 : ((j + 1 : Nat) : Int) - 1 = (j : Int) := by omega
     simp only [e1, q1, q2]
     have d1 : (0 : Int) < ((j + 1 : Nat) : Int) := by omega
     have d2 : (0 : Int) ≤ (j : Int) := by omega
     have d3 : (j : Int) < (l.length : Int) := by omega
     have d4 : (-9223372036854775808 : Int) ≤ (j : Int) := by omega
     have d5 : (j : Int) ≤ (9223372036854775807 : Int) := by omega
     grind
   ·have hf : ascB 0 (-1) l = false := by rw [hE, decide_eq_false hv, Bool.false_and]
    rw [hf]
    cases i with
    | zero =>
     obtain ⟨rfl, rfl⟩ := h0 rfl
     have : ¬ (0 ≤ b.f ∧ b.f < b.t ∧ b.t ≤ 100000000 ∧ 0 ≤ b.c ∧ b.c ≤ 7) := fun hh => hv ⟨hh.1, hh.2.1, hh.2.2.1, hh.2.2.2.1, hh.2.2.2.2, hh.1, fun _ => by omega⟩
     have d1 : ¬ (0 : Int) < ((0 : Nat) : Int) := by decide
     simp only [d1, decide_false, cond_false]
     grind
    | succ j =>
     obtain ⟨p, hp1, rfl, rfl⟩ := hp j rfl
     obtain ⟨q0, q1, q2⟩ := bcell hp1
     have e1 : ((j + 1 : Nat) : Int) - 1 = (j : Int) := by omega
     simp only [e1, q1, q2]
     have d1 : (0 : Int) < ((j + 1 : Nat) : Int) := by omega
     have d2 : (0 : Int) ≤ (j : Int) := by omega
     have d3 : (j : Int) < (l.length : Int) := by omega
     have d4 : (-9223372036854775808 : Int) ≤ (j : Int) := by omega
     have d5 : (j : Int) ≤ (9223372036854775807 : Int) := by omega
     grind
  ·have h0 : i = l.length := by omega
   have c1 : ¬ (i : Int) < (l.length : Int) := by omega
   simp only [List.length_map, c1, decide_false, cond_false]
   rw [hE, h0, List.drop_length]; rfl
 ·have c3 : (40 : Int) < (l.length : Int) := by omega
  have e3 : vldB l = false := by simp [vldB, h3]
  simp only [List.length_map, c3, decide_true, cond_true, e3]
end Go.Proofs.YtjllgiddmeiaoaaGreat
namespace Go.Dial.Blk
def IsMap (g : Int → Int) (o : List B3) : Prop := Canon o ∧ ∀ n, 0 ≤ n → n < 100000000 → hold o n = g n
theorem IsMap.uniq {g : Int → Int} {a b : List B3} (ha : IsMap g a) (hb : IsMap g b) : a = b := Canon.uniq ha.1 hb.1 fun n h1 h2 => by rw [ha.2 n h1 h2, hb.2 n h1 h2]
theorem IsMap.congr {g g' : Int → Int} {a : List B3} (ha : IsMap g a) (h : ∀ n, 0 ≤ n → n < 100000000 → g n = g' n) : IsMap g' a := ⟨ha.1, fun n h1 h2 => by rw [ha.2 n h1 h2, h n h1 h2]⟩
open Classical in
noncomputable def mapOf (g : Int → Int) : List B3 := if h : ∃ o, IsMap g o then h.choose else []
theorem mapOf_eq {g : Int → Int} {o : List B3} (h : IsMap g o) : mapOf g = o := by
 unfold mapOf
 rw [dif_pos ⟨o, h⟩]
 exact (Exists.choose_spec (p := fun o => IsMap g o) ⟨o, h⟩).uniq h
theorem Upto.isMap {g : Int → Int} {o : List B3} (h : Upto g 100000000 o) : IsMap g o := ⟨h.1, fun n h1 h2 => by rw [h.2.2 n, if_pos ⟨h1, h2⟩]⟩
noncomputable def combR (g : Int → Int) : List B3 × Int := if (mapOf g).length ≤ 40 then (mapOf g, 0) else ([], 130)
def putI : List Int → Int → List Int
 | [], n => [n]
 | x :: l, n => if x < n then x :: putI l n else if x = n then x :: l else n :: x :: l
theorem putI_mem {l : List Int} {n y : Int} : y ∈ putI l n ↔ y = n ∨ y ∈ l := by
 induction l with
 | nil => simp [putI]
 | cons x l ih =>
  unfold putI
  split
  ·simp only [List.mem_cons, ih]; grind
  ·split
   ·rename_i h; subst h; simp only [List.mem_cons]; grind
   ·simp only [List.mem_cons]
theorem putI_sorted {l : List Int} {n : Int} (h : l.Pairwise (· < ·)) : (putI l n).Pairwise (· < ·) := by
 induction l with
 | nil => simp [putI]
 | cons x l ih =>
  rw [List.pairwise_cons] at h
  unfold putI
  split
  ·rename_i hx
   rw [List.pairwise_cons]
   refine ⟨fun y hy => ?_, ih h.2⟩
   rcases putI_mem.1 hy with rfl | hy
   ·exact hx
   ·exact h.1 y hy
  ·split
   ·rw [List.pairwise_cons]; exact h
   ·rename_i h1 h2
    rw [List.pairwise_cons, List.pairwise_cons]
    refine ⟨fun y hy => ?_, h⟩
    rcases List.mem_cons.1 hy with rfl | hy
    ·omega
    ·have := h.1 y hy; omega
theorem putI_len (l : List Int) (n : Int) : (putI l n).length ≤ l.length + 1 := by
 induction l with
 | nil => simp [putI]
 | cons x l ih =>
  unfold putI
  split
  ·simp; omega
  ·split <;> simp
def putB (o : List Int) (l : List B3) : List Int := l.foldl (fun o b => putI (putI o b.f) b.t) o
theorem putB_mem (l : List B3) : ∀ (o : List Int) (y : Int), y ∈ putB o l ↔ y ∈ o ∨ ∃ b ∈ l, y = b.f ∨ y = b.t := by
 induction l with
 | nil => intro o y; simp [putB]
 | cons b l ih =>
  intro o y
  show y ∈ putB (putI (putI o b.f) b.t) l ↔ _
  rw [ih, putI_mem, putI_mem]
  simp only [List.mem_cons, exists_eq_or_imp]
  grind
theorem putB_sorted (l : List B3) : ∀ (o : List Int), o.Pairwise (· < ·) → (putB o l).Pairwise (· < ·) := by
 induction l with
 | nil => intro o h; exact h
 | cons b l ih => intro o h; exact ih _ (putI_sorted (putI_sorted h))
theorem putB_len (l : List B3) : ∀ (o : List Int), (putB o l).length ≤ o.length + 2 * l.length := by
 induction l with
 | nil => intro o; simp [putB]
 | cons b l ih =>
  intro o
  have h1 := ih (putI (putI o b.f) b.t)
  have h2 := putI_len (putI o b.f) b.t
  have h3 := putI_len o b.f
  show (putB (putI (putI o b.f) b.t) l).length ≤ _
  simp only [List.length_cons]; omega
def edgesI (a b : List B3) : List Int := putB (putB [0, 100000000] a) b
theorem asc_bd {l : List B3} {e k : Int} (h : Asc e k l) {b : B3} (hb : b ∈ l) : 0 ≤ b.f ∧ b.f < b.t ∧ b.t ≤ 100000000 ∧ 0 ≤ b.c ∧ b.c ≤ 7 := by
 induction l generalizing e k with
 | nil => simp at hb
 | cons x l ih =>
  obtain ⟨x1, x2, x3, x4, x5, x6, x7, x8⟩ := h
  rcases List.mem_cons.1 hb with rfl | hb
  ·exact ⟨x1, x2, x3, x4, x5⟩
  ·exact ih x8 hb
structure Edges (a b : List B3) (E : List Int) : Prop where
 sorted : E.Pairwise (· < ·)
 first : E[0]? = some 0
 last : E[E.length - 1]? = some 100000000
 two : 2 ≤ E.length
 mem : ∀ c, c ∈ a ∨ c ∈ b → c.f ∈ E ∧ c.t ∈ E
theorem sorted_get {E : List Int} (h : E.Pairwise (· < ·)) {i j : Nat} {x y : Int} (hi : E[i]? = some x) (hj : E[j]? = some y) (hij : i < j) : x < y := by
 obtain ⟨h1, rfl⟩ := List.getElem?_eq_some_iff.1 hi
 obtain ⟨h2, rfl⟩ := List.getElem?_eq_some_iff.1 hj
 exact List.pairwise_iff_getElem.1 h i j h1 h2 hij
theorem edges_of {a b : List B3} (ha : Canon a) (hb : Canon b) : Edges a b (edgesI a b) := by
 have hs : (edgesI a b).Pairwise (· < ·) := putB_sorted _ _ (putB_sorted _ _ (by decide))
 have hm : ∀ y, y ∈ edgesI a b ↔ (y = 0 ∨ y = 100000000) ∨ (∃ c ∈ a, y = c.f ∨ y = c.t) ∨ ∃ c ∈ b, y = c.f ∨ y = c.t := fun y => by
  unfold edgesI
  rw [putB_mem, putB_mem]
  simp only [List.mem_cons, List.not_mem_nil, or_false, or_assoc]
 have hbd : ∀ y ∈ edgesI a b, 0 ≤ y ∧ y ≤ 100000000 := fun y hy => by
  rcases (hm y).1 hy with (rfl | rfl) | ⟨c, hc, h⟩ | ⟨c, hc, h⟩
  ·decide
  ·decide
  ·have := asc_bd ha hc; omega
  ·have := asc_bd hb hc; omega
 have h0 : (0 : Int) ∈ edgesI a b := (hm 0).2 (.inl (.inl rfl))
 have h1 : (100000000 : Int) ∈ edgesI a b := (hm _).2 (.inl (.inr rfl))
 obtain ⟨i, hi⟩ := List.getElem?_of_mem h0
 obtain ⟨j, hj⟩ := List.getElem?_of_mem h1
 have hil := (List.getElem?_eq_some_iff.1 hi).1
 have hjl := (List.getElem?_eq_some_iff.1 hj).1
 have hi0 : i = 0 := by
  rcases Nat.eq_zero_or_pos i with h | h
  ·exact h
  ·have hz := List.getElem?_eq_getElem (l := edgesI a b) (i := 0) (by omega)
   have h2 := sorted_get hs hz hi h
   have h3 := (hbd _ (List.mem_of_getElem? hz)).1
   omega
 have hjl2 : j = (edgesI a b).length - 1 := by
  rcases Nat.lt_or_ge j ((edgesI a b).length - 1) with h | h
  ·have hz := List.getElem?_eq_getElem (l := edgesI a b) (i := (edgesI a b).length - 1) (by omega)
   have h2 := sorted_get hs hj hz h
   have h3 := (hbd _ (List.mem_of_getElem? hz)).2
   omega
  ·omega
 have hij : i ≠ j := fun h => by subst h; rw [hi] at hj; cases hj
 subst hi0; subst hjl2
 exact ⟨hs, hi, hj, by omega, fun c hc => ⟨(hm _).2 (.inr (by rcases hc with hc | hc; exact .inl ⟨c, hc, .inl rfl⟩; exact .inr ⟨c, hc, .inl rfl⟩)), (hm _).2 (.inr (by rcases hc with hc | hc; exact .inl ⟨c, hc, .inr rfl⟩; exact .inr ⟨c, hc, .inr rfl⟩))⟩⟩
theorem between {l : List B3} {E : List Int} (hl : Canon l) (hs : E.Pairwise (· < ·)) (hm : ∀ c ∈ l, c.f ∈ E ∧ c.t ∈ E) {i : Nat} {p q : Int} (hp : E[i]? = some p) (hq : E[i + 1]? = some q) : ∀ n, p ≤ n → n < q → hold l n = hold l p := by
 have noMem : ∀ n, p < n → n < q → n ∉ E := fun n h1 h2 hn => by
  obtain ⟨j, hj⟩ := List.getElem?_of_mem hn
  rcases Nat.lt_or_ge i j with h3 | h3
  ·rcases Nat.lt_or_ge (i + 1) j with h4 | h4
   ·have := sorted_get hs hq hj h4; omega
   ·have : j = i + 1 := by omega
    subst this; rw [hq] at hj; cases hj; omega
  ·rcases Nat.lt_or_ge j i with h4 | h4
   ·have := sorted_get hs hj hp h4; omega
   ·have : j = i := by omega
    subst this; rw [hp] at hj; cases hj; omega
 have key : ∀ (k : Nat), p + k < q → hold l (p + k) = hold l p := by
  intro k
  induction k with
  | zero => intro _; simp
  | succ k ih =>
   intro hk
   have h1 := ih (by omega)
   by_cases h2 : hold l (p + (k + 1 : Nat) - 1) = hold l (p + (k + 1 : Nat))
   ·rw [← h2, ← h1]; congr 1; omega
   ·obtain ⟨c, hc, h3⟩ := change_mem hl h2
    have := hm c hc
    rcases h3 with h3 | h3
    ·exact absurd (h3 ▸ this.1) (noMem _ (by omega) hk)
    ·exact absurd (h3 ▸ this.2) (noMem _ (by omega) hk)
 intro n h1 h2
 have := key (n - p).toNat (by omega)
 rwa [show p + ((n - p).toNat : Int) = n by omega] at this
structure PInv (g : Int → Int → Int) (A B : Int → Int) (from_ : Int) (o a b : List B3) : Prop where
 lo : 0 ≤ from_
 hi : from_ ≤ 100000000
 up : Upto (fun m => g (A m) (B m)) from_ o
 sa : Some a
 sb : Some b
 ha : ∀ m, from_ ≤ m → hold a m = A m
 hb : ∀ m, from_ ≤ m → hold b m = B m
 len : o.length ≤ from_.toNat
theorem step_len (o : List B3) (f t k : Int) : (step o f t k).length ≤ o.length + 1 := by
 unfold step
 split
 ·omega
 ·split
  ·rename_i y hy
   split
   ·have : o ≠ [] := fun h => by subst h; simp at hy
    have := List.length_pos_iff.2 this
    simp
    try omega
   ·simp
  ·simp
theorem PInv.begin (g : Int → Int → Int) {a b : List B3} (ha : Canon a) (hb : Canon b) : PInv g (hold a) (hold b) 0 [] a b := ⟨by decide, by decide, Upto.nil _, ⟨_, _, ha⟩, ⟨_, _, hb⟩, fun _ _ => rfl, fun _ _ => rfl, by simp⟩
theorem PInv.next {g : Int → Int → Int} {A B : Int → Int} {p : Int} {o a b : List B3} (hg : ∀ x y, -1 ≤ x → x ≤ 7 → -1 ≤ y → y ≤ 7 → -1 ≤ g x y ∧ g x y ≤ 7) (h : PInv g A B p o a b) (hp : p < 100000000) :
  p < min (at_ a p).2.2 (at_ b p).2.2 ∧ PInv g A B (min (at_ a p).2.2 (at_ b p).2.2) (step o p (min (at_ a p).2.2 (at_ b p).2.2) (g (at_ a p).2.1 (at_ b p).2.1)) (at_ a p).1 (at_ b p).1 := by
 obtain ⟨a1, a2, a3, a4, a5, a6⟩ := at_spec h.sa p
 obtain ⟨b1, b2, b3, b4, b5, b6⟩ := at_spec h.sb p
 have ga := at_gt a hp
 have gb := at_gt b hp
 have h0 := h.lo
 obtain ⟨t, ht⟩ : ∃ t, t = min (at_ a p).2.2 (at_ b p).2.2 := ⟨_, rfl⟩
 rw [← ht]
 have hl := step_len o p t (g (at_ a p).2.1 (at_ b p).2.1)
 have hlen := h.len
 refine ⟨by omega, by omega, by omega, ?_, a1, b1, fun m hm => (a4 m (by omega)).trans (h.ha m (by omega)), fun m hm => (b4 m (by omega)).trans (h.hb m (by omega)), by omega⟩
 refine Upto.step h.up h0 (by omega) (by omega) (hg _ _ a5 a6 b5 b6) fun m h1 h2 => ?_
 rw [← h.ha m h1, ← h.hb m h1, a3 m h1 (by omega), b3 m h1 (by omega)]
theorem PInv.done {g : Int → Int → Int} {A B : Int → Int} {p : Int} {o a b : List B3} (h : PInv g A B p o a b) (hp : ¬ p ≤ 99999999) : IsMap (fun m => g (A m) (B m)) o ∧ mapOf (fun m => g (A m) (B m)) = o ∧ o.length ≤ 100000000 := by
 have h1 := h.hi
 have : p = 100000000 := by omega
 subst this
 exact ⟨h.up.isMap, mapOf_eq h.up.isMap, by have := h.len; omega⟩
end Go.Dial.Blk
set_option maxRecDepth 100000
namespace Go.Proofs.YtjllgiddmeiaoaaGreat
open Go Go.Sx Go.Dial.Blk
abbrev iR (x : Int) : List AV := [.int x]
abbrev iL (l : List Int) : Lv := l.map iR
theorem icell {l : List Int} {i : Nat} {x : Int} (h : l[i]? = some x) : cI (iL l) (i : Int) 0 = x := by
 have hc : ∀ k, cA (iL l) (i : Int) k = (iR x).getD k (.int 0) := fun k => cA_map (by simpa using h)
 simp only [cI, hc]; rfl
theorem ref13_put_v (n : Nat) (l : List Int) (x : Int) (hn : l.length < n) (hl : l.length ≤ 1000) : ref13_put n (iL l) x = some (iL (putI l x)) := by
 unfold ref13_put ref13_put_1
 refine iterF_ind (fun s => ∃ i : Nat, s = (i : Int) ∧ i ≤ l.length ∧ putI l x = l.take i ++ putI (l.drop i) x) (fun s => l.length - s.toNat) _ ?_ n _ ⟨0, rfl, by omega, by simp⟩ (by simp; omega)
 rintro _ go ⟨i, rfl, hi, hE⟩ ih
 unfold ref13_put_2
 have ht : (i : Int).toNat = i := by omega
 have ht2 : ((iL l).length : Int).toNat = l.length := by simp
 have e1 : List.take l.length (iL l) = iL l := by rw [List.take_of_length_le (by simp)]
 have e2 : List.take i (iL l) ++ (([] : Lv) ++ [[AV.int x]] ++ List.drop i (iL l)) = iL (l.take i ++ x :: l.drop i) := by simp [iL, List.map_take, List.map_drop]
 by_cases hlt : i < l.length
 ·obtain ⟨b, hb⟩ := get_lt hlt
  have g0 := icell hb
  have c1 : (i : Int) < ((iL l).length : Int) := by simp; omega
  have c2 : (0 : Int) ≤ (i : Int) := by omega
  have c3 : (i : Int) ≤ ((iL l).length : Int) := by omega
  have c4 : (-9223372036854775808 : Int) ≤ (i : Int) + 1 := by omega
  have c5 : (i : Int) + 1 ≤ (9223372036854775807 : Int) := by omega
  have c6 : ((iL l).length : Int) ≤ ((iL l).length : Int) := Int.le_refl _
  rw [bdrop hb, putI] at hE
  rw [decide_eq_true c1, cond_true, decide_eq_true c2, cond_true, g0]
  by_cases h1 : b < x
  ·rw [decide_eq_true h1, cond_true, decide_eq_true c4, decide_eq_true c5, Bool.and_self, cond_true]
   exact ih _ ⟨i + 1, by simp, by omega, by rw [hE, if_pos h1, take_snoc hb]; simp⟩ (by first | omega | (simp only; omega))
  ·rw [if_neg h1] at hE
   rw [decide_eq_false h1, cond_false]
   by_cases h2 : b = x
   ·rw [decide_eq_true h2, cond_true, hE, if_pos h2]
    congr 2
    rw [← bdrop hb, List.take_append_drop]
   ·rw [if_neg h2] at hE
    rw [decide_eq_false h2, cond_false, decide_eq_true c3, cond_true, decide_eq_true c6, cond_true, ht, ht2, e1, e2, ← bdrop hb] at *
    have k1 : (((([] : Lv) ++ [[AV.int x]] ++ List.drop i (iL l)).length : Int) * 8) ≤ 140737488355328 := by simp; omega
    have k2 : ((iL (l.take i ++ x :: l.drop i)).length : Int) * 8 ≤ 140737488355328 := by simp; omega
    rw [decide_eq_true k1, cond_true, decide_eq_true k2, cond_true, hE]
 ·have h0 : i = l.length := by omega
  have c1 : ¬ (i : Int) < ((iL l).length : Int) := by simp; omega
  have c2 : (0 : Int) ≤ (i : Int) := by omega
  have c3 : (i : Int) ≤ ((iL l).length : Int) := by simp; omega
  have c6 : ((iL l).length : Int) ≤ ((iL l).length : Int) := Int.le_refl _
  have k1 : (((([] : Lv) ++ [[AV.int x]] ++ List.drop i (iL l)).length : Int) * 8) ≤ 140737488355328 := by simp; omega
  have k2 : ((iL (l.take i ++ x :: l.drop i)).length : Int) * 8 ≤ 140737488355328 := by simp; omega
  have hd : l.drop i = [] := by rw [h0]; exact List.drop_length
  rw [hd, putI] at hE
  rw [decide_eq_false c1, cond_false, decide_eq_true c2, cond_true, decide_eq_true c3, cond_true, decide_eq_true c6, cond_true, ht, ht2, e1, e2, decide_eq_true k1, cond_true, decide_eq_true k2, cond_true, hE, hd]
theorem putB_take {l : List B3} {o : List Int} {i : Nat} {b : B3} (h : l[i]? = some b) : putB o (l.take (i + 1)) = putI (putI (putB o (l.take i)) b.f) b.t := by
 rw [take_snoc h]; simp [putB, List.foldl_append]
theorem ref13_edges_v (n : Nat) (a b : List B3) (hn : 210 < n) (ha : a.length ≤ 41) (hb : b.length ≤ 41) : ref13_edges n (bL a) (bL b) = some (iL (edgesI a b)) := by
 have l1 : ∀ i, (putB [0, 100000000] (a.take i)).length ≤ 84 := fun i => by have := putB_len (a.take i) [0, 100000000]; simp at this; omega
 have l2 : ∀ i, (putB (putB [0, 100000000] a) (b.take i)).length ≤ 166 := fun i => by
  have h1 := putB_len (b.take i) (putB [0, 100000000] a)
  have h2 := putB_len a [0, 100000000]
  simp at h1 h2; omega
 unfold ref13_edges ref13_edges_1
 refine iterF_ind (fun s => ∃ i : Nat, s = (iL (putB [0, 100000000] (a.take i)), (i : Int)) ∧ i ≤ a.length) (fun s => a.length - s.2.toNat) _ ?_ n _ ⟨0, rfl, by omega⟩ (by simp; omega)
 rintro _ go ⟨i, rfl, hi⟩ ih
 simp only at ih ⊢
 unfold ref13_edges_2
 by_cases hlt : i < a.length
 ·obtain ⟨c, hc⟩ := get_lt hlt
  obtain ⟨g0, g1, g2⟩ := bcell hc
  have c1 : (i : Int) < ((bL a).length : Int) := by simp; omega
  have c2 : (0 : Int) ≤ (i : Int) := by omega
  have c4 : (-9223372036854775808 : Int) ≤ (i : Int) + 1 := by omega
  have c5 : (i : Int) + 1 ≤ (9223372036854775807 : Int) := by omega
  have hl := l1 i
  have hl2 := putI_len (putB [0, 100000000] (a.take i)) c.f
  rw [decide_eq_true c1, cond_true, decide_eq_true c2, cond_true, g0, g1, ref13_put_v n _ _ (by omega) (by omega), Option.bind_some, ref13_put_v n _ _ (by omega) (by omega), Option.bind_some, decide_eq_true c4, decide_eq_true c5, Bool.and_self, cond_true, ← putB_take hc]
  exact ih _ ⟨i + 1, by simp, by omega⟩ (by first | omega | (simp only; omega))
 ·have c1 : ¬ (i : Int) < ((bL a).length : Int) := by simp; omega
  rw [decide_eq_false c1, cond_false, List.take_of_length_le (by omega)]
  refine iterF_ind (fun s => ∃ i : Nat, s = (iL (putB (putB [0, 100000000] a) (b.take i)), (i : Int)) ∧ i ≤ b.length) (fun s => b.length - s.2.toNat) _ ?_ n _ ⟨0, rfl, by omega⟩ (by simp; omega)
  rintro _ go ⟨i, rfl, hi⟩ ih
  simp only at ih ⊢
  unfold ref13_edges_3
  by_cases hlt : i < b.length
  ·obtain ⟨c, hc⟩ := get_lt hlt
   obtain ⟨g0, g1, g2⟩ := bcell hc
   have c1 : (i : Int) < ((bL b).length : Int) := by simp; omega
   have c2 : (0 : Int) ≤ (i : Int) := by omega
   have c4 : (-9223372036854775808 : Int) ≤ (i : Int) + 1 := by omega
   have c5 : (i : Int) + 1 ≤ (9223372036854775807 : Int) := by omega
   have hl := l2 i
   have hl2 := putI_len (putB (putB [0, 100000000] a) (b.take i)) c.f
   rw [decide_eq_true c1, cond_true, decide_eq_true c2, cond_true, g0, g1, ref13_put_v n _ _ (by omega) (by omega), Option.bind_some, ref13_put_v n _ _ (by omega) (by omega), Option.bind_some, decide_eq_true c4, decide_eq_true c5, Bool.and_self, cond_true, ← putB_take hc]
   exact ih _ ⟨i + 1, by simp, by omega⟩ (by first | omega | (simp only; omega))
  ·have c1 : ¬ (i : Int) < ((bL b).length : Int) := by simp; omega
   rw [decide_eq_false c1, cond_false, List.take_of_length_le (by omega)]
   rfl
set_option maxRecDepth 100000
def growF {α : Type} (go0 : Lv × Int → Option α) (v6 : Lv) (v7 P Q y : Int) : Option α :=
 (bif (decide (0 < (v6.length : Int))) then bif ((decide ((-9223372036854775808) ≤ ((v6.length : Int) - 1))) && (decide (((v6.length : Int) - 1) ≤ 9223372036854775807))) then bif (decide (0 ≤ (imax ((v6.length : Int) - 1) 0))) then bif (decide ((imax ((v6.length : Int) - 1) 0) < (v6.length : Int))) then (bif (decide ((cI v6 (imax ((v6.length : Int) - 1) 0) 1) = P)) then (bif (decide ((cI v6 (imax ((v6.length : Int) - 1) 0) 2) = y)) then bif (decide (0 ≤ (v7 + 1))) then bif (decide (0 ≤ ((v6.length : Int) - 1))) then bif (decide (((v6.length : Int) - 1) < (v6.length : Int))) then go0 ((List.modify v6 (((v6.length : Int) - 1)).toNat (fun r => r.set 1 (AV.int Q))), (v7 + 1)) else none else none else none
 else bif (decide (0 ≤ (v7 + 1))) then bif (decide ((((v6.length : Int) + 1) * 24) ≤ 140737488355328)) then go0 ((v6 ++ [[(AV.int P), (AV.int Q), (AV.int y)]]), (v7 + 1)) else none else none)
 else bif (decide (0 ≤ (v7 + 1))) then bif (decide ((((v6.length : Int) + 1) * 24) ≤ 140737488355328)) then go0 ((v6 ++ [[(AV.int P), (AV.int Q), (AV.int y)]]), (v7 + 1)) else none else none) else none else none else none
 else bif (decide (0 ≤ (v7 + 1))) then bif (decide ((((v6.length : Int) + 1) * 24) ≤ 140737488355328)) then go0 ((v6 ++ [[(AV.int P), (AV.int Q), (AV.int y)]]), (v7 + 1)) else none else none)
theorem bL_app (l m : List B3) : bL (l ++ m) = bL l ++ bL m := List.map_append
theorem mod_last {α : Type} (l : List α) (x : α) (f : α → α) : (l ++ [x]).modify l.length f = l ++ [f x] := by
 induction l with
 | nil => rfl
 | cons a l ih =>
  show (a :: (l ++ [x])).modify (l.length + 1) f = a :: (l ++ [f x])
  rw [List.modify_succ_cons, ih]
theorem bmod (l : List B3) (y : B3) (q : Int) : List.modify (bL (l ++ [y])) l.length (fun r => r.set 1 (AV.int q)) = bL (l ++ [⟨y.f, q, y.c⟩]) := by
 rw [bL_app, bL_app]
 have := mod_last (bL l) (bR y) (fun r => r.set 1 (AV.int q))
 rw [show (bL l).length = l.length by simp] at this
 exact this
theorem grow_v {α : Type} (go0 : Lv × Int → Option α) (o : List B3) (i : Nat) (p q y : Int) (hy : 0 ≤ y) (hl : o.length ≤ 1000) : growF go0 (bL o) (i : Int) p q y = go0 (bL (Dial.Blk.step o p q y), (i : Int) + 1) := by
 have c2 : (0 : Int) ≤ (i : Int) + 1 := by omega
 have hy1 : y ≠ -1 := by omega
 unfold growF
 rcases List.eq_nil_or_concat o with rfl | ⟨l, b, rfl⟩
 ·rw [step_nil _ _ _ hy1, decide_eq_false (by simp : ¬ (0 : Int) < ((bL []).length : Int)), cond_false, decide_eq_true c2, cond_true, decide_eq_true (by simp : (((bL []).length : Int) + 1) * 24 ≤ 140737488355328), cond_true]
  rfl
 ·rw [List.concat_eq_append] at *
  have hb : (l ++ [b])[l.length]? = some b := by simp
  obtain ⟨g0, g1, g2⟩ := bcell hb
  have hlen : ((bL (l ++ [b])).length : Int) = (l.length : Int) + 1 := by simp
  have hle : l.length ≤ 1000 := by simp at hl; omega
  have e1 : ((bL (l ++ [b])).length : Int) - 1 = (l.length : Int) := by omega
  have e2 : imax (((bL (l ++ [b])).length : Int) - 1) 0 = (l.length : Int) := by rw [e1]; unfold imax; split <;> omega
  have e3 : (l.length : Int).toNat = l.length := by omega
  rw [e2, e1, g1, g2, e3, bmod]
  have k1 : (0 : Int) < ((bL (l ++ [b])).length : Int) := by omega
  have k2 : (-9223372036854775808 : Int) ≤ (l.length : Int) := by omega
  have k3 : (l.length : Int) ≤ 9223372036854775807 := by omega
  have k4 : (0 : Int) ≤ (l.length : Int) := by omega
  have k5 : (l.length : Int) < ((bL (l ++ [b])).length : Int) := by omega
  have k6 : (((bL (l ++ [b])).length : Int) + 1) * 24 ≤ 140737488355328 := by omega
  rw [step_snoc _ _ _ _ _ hy1, decide_eq_true k1, cond_true, decide_eq_true k2, decide_eq_true k3, Bool.and_self, cond_true, decide_eq_true k4, cond_true, decide_eq_true k5, cond_true, decide_eq_true c2, decide_eq_true k6]
  simp only [cond_true]
  by_cases h1 : b.t = p
  ·by_cases h2 : b.c = y
   ·rw [decide_eq_true h1, decide_eq_true h2, if_pos ⟨h1, h2⟩, ← h2]; simp only [cond_true]
   ·rw [decide_eq_true h1, decide_eq_false h2, if_neg (fun h => h2 h.2)]; simp only [cond_true, cond_false]; rw [bL_app (l ++ [b])]; rfl
  ·rw [decide_eq_false h1, if_neg (fun h => h1 h.1)]; simp only [cond_false]; rw [bL_app (l ++ [b])]; rfl
def gcR (w f t x y : Int) : Int :=
 if w = 1 ∧ 0 ≤ y then -1 else
 if (w = 0 ∧ 0 ≤ y) ∨ (w = 2 ∧ y < 0) then (if 0 ≤ y ∧ y = f then t else y) else (if 0 ≤ x ∧ x = f then t else x)
theorem comb6 (n : Nat) (go : Lv × Int → Option ref13_combine_a) (v3 v4 : Int) (E : List Int) (o : List B3) (i : Nat) (x p q : Int) (hp : E[i]? = some p) (hq : E[i + 1]? = some q) (hx : -1 ≤ x) (h4 : -1 ≤ v4) (hl : o.length ≤ 1000) :
  ref13_combine_6 n go v3 v4 (iL E) (bL o) (i : Int) x = go (bL (Dial.Blk.step o p q (if 0 ≤ x ∧ x = v3 then v4 else x)), (i : Int) + 1) := by
 have hP : cI (iL E) (i : Int) 0 = p := icell hp
 have hQ : cI (iL E) ((i : Int) + 1) 0 = q := icell (i := i + 1) hq
 unfold ref13_combine_6
 rw [hP, hQ]
 by_cases h0 : 0 ≤ x
 ·rw [decide_eq_true h0, cond_true]
  by_cases h1 : x = v3
  ·rw [decide_eq_true h1, cond_true, if_pos ⟨h0, h1⟩]
   by_cases h2 : v4 < 0
   ·have : v4 = -1 := by omega
    rw [decide_eq_true h2, cond_true, this, step_none]
   ·rw [decide_eq_false h2, cond_false]
    exact grow_v go o i p q v4 (by omega) hl
  ·rw [decide_eq_false h1, cond_false, if_neg (fun h => h1 h.2), decide_eq_false (by omega : ¬ x < 0), cond_false]
   exact grow_v go o i p q x h0 hl
 ·have : x = -1 := by omega
  subst this
  rw [if_neg (by omega), step_none]
  rfl
theorem comb4 (n : Nat) (go : Lv × Int → Option ref13_combine_a) (w v3 v4 : Int) (hw : w = 0 ∨ w = 1 ∨ w = 2) (E : List Int) (o : List B3) (i : Nat) (x y p q : Int) (hp : E[i]? = some p) (hq : E[i + 1]? = some q) (hx : -1 ≤ x) (hy : -1 ≤ y) (h4 : -1 ≤ v4) (hl : o.length ≤ 1000) :
  ref13_combine_4 n go w v3 v4 (iL E) (bL o) (i : Int) x y = go (bL (Dial.Blk.step o p q (gcR w v3 v4 x y)), (i : Int) + 1) := by
 unfold gcR
 have hX := comb6 n go v3 v4 E o i x p q hp hq hx h4 hl
 unfold ref13_combine_4
 rcases hw with rfl | rfl | rfl
 ·rw [decide_eq_true rfl, cond_true]
  unfold ref13_combine_5
  by_cases h0 : 0 ≤ y
  ·have hY := comb6 n go v3 v4 E o i y p q hp hq hy h4 hl
   unfold ref13_combine_6 at hY
   rw [decide_eq_true h0, cond_true] at hY ⊢
   rw [if_neg (by omega), if_pos (by omega)]
   exact hY
  ·rw [decide_eq_false h0, cond_false, if_neg (by omega), if_neg (by omega)]
   exact hX
 ·rw [decide_eq_false (by decide), cond_false]
  unfold ref13_combine_7
  rw [decide_eq_true rfl, cond_true]
  unfold ref13_combine_8
  by_cases h0 : 0 ≤ y
  ·rw [decide_eq_true h0, cond_true, if_pos ⟨rfl, h0⟩, step_none]
  ·rw [decide_eq_false h0, cond_false, if_neg (by omega), if_neg (by omega)]
   exact hX
 ·rw [decide_eq_false (by decide), cond_false]
  unfold ref13_combine_7
  rw [decide_eq_false (by decide), cond_false]
  unfold ref13_combine_10
  rw [decide_eq_true rfl, cond_true]
  unfold ref13_combine_11
  by_cases h0 : y < 0
  ·have : y = -1 := by omega
   subst this
   rw [if_neg (by omega), if_pos (by omega), if_neg (by omega), step_none]
   rfl
  ·rw [decide_eq_false h0, cond_false, if_neg (by omega), if_neg (by omega)]
   exact hX
theorem gcR_bd {w f t x y : Int} (hx : -1 ≤ x ∧ x ≤ 7) (hy : -1 ≤ y ∧ y ≤ 7) (ht : -1 ≤ t ∧ t ≤ 7) : -1 ≤ gcR w f t x y ∧ gcR w f t x y ≤ 7 := by
 unfold gcR
 repeat' split
 all_goals omega
theorem ref13_combine_v (n : Nat) (a b : List B3) (w v3 v4 : Int) (ha : Canon a) (hb : Canon b) (hal : a.length ≤ 41) (hbl : b.length ≤ 41) (hw : w = 0 ∨ w = 1 ∨ w = 2) (h4 : -1 ≤ v4 ∧ v4 ≤ 7) (hn : 210 < n) :
  ref13_combine n (bL a) (bL b) w v3 v4 = some (bL (combR fun m => gcR w v3 v4 (hold a m) (hold b m)).1, (combR fun m => gcR w v3 v4 (hold a m) (hold b m)).2) ∧ IsMap (fun m => gcR w v3 v4 (hold a m) (hold b m)) (mapOf fun m => gcR w v3 v4 (hold a m) (hold b m)) := by
 obtain ⟨g, hg⟩ : ∃ g : Int → Int, g = fun m => gcR w v3 v4 (hold a m) (hold b m) := ⟨_, rfl⟩
 rw [← hg]
 obtain ⟨E, hE⟩ : ∃ E, E = edgesI a b := ⟨_, rfl⟩
 have hEd := edges_of ha hb
 have hEl : E.length ≤ 166 := by
  rw [hE]
  have h1 := putB_len b (putB [0, 100000000] a)
  have h2 := putB_len a [0, 100000000]
  show (putB (putB [0, 100000000] a) b).length ≤ 166
  simp at h2; omega
 rw [← hE] at hEd
 have fold : ∀ k, k < E.length → ∃ o, (∃ p, E[k]? = some p ∧ Upto g p o) ∧ o.length ≤ k ∧ o = (List.range k).foldl (fun o i => Dial.Blk.step o (E.getD i 0) (E.getD (i + 1) 0) (g (E.getD i 0))) [] := by
  intro k
  induction k with
  | zero => intro _; exact ⟨[], ⟨0, hEd.first, Upto.nil g⟩, by simp, rfl⟩
  | succ k ih =>
   intro hk
   obtain ⟨o, ⟨p, hp, ho⟩, hol, hof⟩ := ih (by omega)
   obtain ⟨q, hq⟩ := get_lt (l := E) (i := k + 1) hk
   have hpq := sorted_get hEd.sorted hp hq (by omega)
   have hq2 : q ≤ 100000000 := by
    rcases Nat.lt_or_ge (k + 1) (E.length - 1) with h | h
    ·have := sorted_get hEd.sorted hq hEd.last h; omega
    ·have : k + 1 = E.length - 1 := by omega
     rw [this, hEd.last] at hq; cases hq; omega
   have hp0 : 0 ≤ p := by
    rcases Nat.eq_zero_or_pos k with h | h
    ·subst h; rw [hEd.first] at hp; cases hp; omega
    ·have := sorted_get hEd.sorted hEd.first hp h; omega
   have hr1 := hold_range ha p
   have hr2 := hold_range hb p
   have hs := ho.step hp0 hpq hq2 (k := g p) (by rw [hg]; exact gcR_bd hr1 hr2 h4) (fun m h1 h2 => by
    rw [hg]
    show gcR _ _ _ _ _ = gcR _ _ _ _ _
    rw [between ha hEd.sorted (fun c hc => hEd.mem c (.inl hc)) hp hq m h1 h2, between hb hEd.sorted (fun c hc => hEd.mem c (.inr hc)) hp hq m h1 h2])
   refine ⟨Dial.Blk.step o p q (g p), ⟨q, hq, hs⟩, ?_, ?_⟩
   ·have := step_len o p q (g p); omega
   ·rw [List.range_succ, List.foldl_append, ← hof]
    simp [List.getD, hp, hq]
 obtain ⟨o, ⟨p, hp, ho⟩, hol, hof⟩ := fold (E.length - 1) (by have := hEd.two; omega)
 rw [hEd.last] at hp; cases hp
 have hmap := mapOf_eq ho.isMap
 have hv : vldB o = decide (o.length ≤ 40) := by
  have : ascB 0 (-1) o = true := (ascB_iff o 0 (-1)).2 ho.1
  rw [vldB, this, Bool.and_true]
 refine ⟨?_, by rw [hmap]; exact ho.isMap⟩
 unfold combR
 rw [hmap]
 unfold ref13_combine ref13_combine_1
 rw [ref13_edges_v n a b hn hal hbl, Option.bind_some, ← hE]
 refine iterF_ind (fun s => ∃ i : Nat, s = (bL ((List.range i).foldl (fun o i => Dial.Blk.step o (E.getD i 0) (E.getD (i + 1) 0) (g (E.getD i 0))) []), (i : Int)) ∧ i ≤ E.length - 1) (fun s => E.length - s.2.toNat) _ ?_ n _ ⟨0, rfl, by omega⟩ (by simp; omega)
 rintro _ go ⟨i, rfl, hi⟩ ih
 simp only at ih ⊢
 have htwo := hEd.two
 have c4 : (-9223372036854775808 : Int) ≤ (i : Int) + 1 := by omega
 have c5 : (i : Int) + 1 ≤ (9223372036854775807 : Int) := by omega
 unfold ref13_combine_2
 rw [decide_eq_true c4, decide_eq_true c5, Bool.and_self, cond_true]
 unfold ref13_combine_3
 by_cases hlt : i + 1 < E.length
 ·obtain ⟨o', ⟨p, hp, _⟩, hol', hof'⟩ := fold i (by omega)
  obtain ⟨q, hq⟩ := get_lt (l := E) (i := i + 1) hlt
  have c1 : (i : Int) + 1 < ((iL E).length : Int) := by simp; omega
  have c2 : (0 : Int) ≤ (i : Int) := by omega
  have c3 : (i : Int) < ((iL E).length : Int) := by omega
  have hr1 := hold_range ha p
  have hr2 := hold_range hb p
  rw [← hof', decide_eq_true c1, cond_true, decide_eq_true c2, cond_true, decide_eq_true c3, cond_true, icell hp, ref13_holder_v n a p (by omega) (by omega), Option.bind_some, ref13_holder_v n b p (by omega) (by omega), Option.bind_some,
   comb4 n go w v3 v4 hw E o' i _ _ p q hp hq (by omega) (by omega) h4.1 (by omega)]
  refine ih _ ⟨i + 1, ?_, by omega⟩ (by first | omega | (simp only; omega))
  rw [List.range_succ, List.foldl_append, ← hof']
  simp [List.getD, hp, hq, hg]
 ·have hie : i = E.length - 1 := by omega
  have c1 : ¬ (i : Int) + 1 < ((iL E).length : Int) := by simp; omega
  rw [hie, ← hof, ← hie, decide_eq_false c1, cond_false, ref13_Valid_v n o (by omega), Option.bind_some, hv]
  by_cases h40 : o.length ≤ 40
  ·rw [decide_eq_true h40, if_pos h40]; rfl
  ·rw [decide_eq_false h40, if_neg h40]; rfl
set_option maxRecDepth 100000
theorem canon_one {f t c : Int} (h0 : 0 ≤ f) (h1 : f < t) (h2 : t ≤ 100000000) (h3 : 0 ≤ c) (h4 : c ≤ 7) : Canon [⟨f, t, c⟩] := ⟨h0, h1, h2, h3, h4, h0, fun _ => by show c ≠ -1; omega, trivial⟩
theorem combR_ok {g : Int → Int} (h : IsMap g (mapOf g)) : Canon (combR g).1 ∧ (combR g).1.length ≤ 40 := by
 unfold combR
 split
 ·rename_i hl; exact ⟨h.1, hl⟩
 ·exact ⟨trivial, by simp⟩
theorem ref13_Give_v (n : Nat) (l : List B3) (f t c : Int) (hc : Canon l) (hl : l.length ≤ 40) (h0 : 0 ≤ f) (h1 : f < t) (h2 : t ≤ 100000000) (h3 : 0 ≤ c) (h4 : c ≤ 7) (hn : 210 < n) :
  ref13_Give n (bL l) f t c = some (bL (combR fun m => gcR 0 (-1) (-1) (hold l m) (hold [⟨f, t, c⟩] m)).1, (combR fun m => gcR 0 (-1) (-1) (hold l m) (hold [⟨f, t, c⟩] m)).2) ∧ IsMap (fun m => gcR 0 (-1) (-1) (hold l m) (hold [⟨f, t, c⟩] m)) (mapOf fun m => gcR 0 (-1) (-1) (hold l m) (hold [⟨f, t, c⟩] m)) := by
 have hV : vldB l = true := (vldB_iff l).2 ⟨hl, hc⟩
 obtain ⟨e1, e2⟩ := ref13_combine_v n l [⟨f, t, c⟩] 0 (-1) (-1) hc (canon_one h0 h1 h2 h3 h4) (by omega) (by simp) (.inl rfl) (by decide) hn
 refine ⟨?_, e2⟩
 unfold ref13_Give ref13_Give_1
 rw [ref13_Valid_v n l (by omega), Option.bind_some, hV, Bool.not_true, cond_false, decide_eq_true h0, cond_true, decide_eq_true h1, cond_true, decide_eq_true h2, Bool.not_true, cond_false, decide_eq_true h3, cond_true, decide_eq_true h4, Bool.not_true, cond_false]
 have : ([] : Lv) ++ [[AV.int f, AV.int t, AV.int c]] = bL [⟨f, t, c⟩] := rfl
 rw [this, e1]; rfl
theorem ref13_Take_v (n : Nat) (l : List B3) (f t : Int) (hc : Canon l) (hl : l.length ≤ 40) (h0 : 0 ≤ f) (h1 : f < t) (h2 : t ≤ 100000000) (hn : 210 < n) :
  ref13_Take n (bL l) f t = some (bL (combR fun m => gcR 1 (-1) (-1) (hold l m) (hold [⟨f, t, 0⟩] m)).1, (combR fun m => gcR 1 (-1) (-1) (hold l m) (hold [⟨f, t, 0⟩] m)).2) ∧ IsMap (fun m => gcR 1 (-1) (-1) (hold l m) (hold [⟨f, t, 0⟩] m)) (mapOf fun m => gcR 1 (-1) (-1) (hold l m) (hold [⟨f, t, 0⟩] m)) := by
 have hV : vldB l = true := (vldB_iff l).2 ⟨hl, hc⟩
 obtain ⟨e1, e2⟩ := ref13_combine_v n l [⟨f, t, 0⟩] 1 (-1) (-1) hc (canon_one h0 h1 h2 (by decide) (by decide)) (by omega) (by simp) (.inr (.inl rfl)) (by decide) hn
 refine ⟨?_, e2⟩
 unfold ref13_Take ref13_Take_1
 rw [ref13_Valid_v n l (by omega), Option.bind_some, hV, Bool.not_true, cond_false, decide_eq_true h0, cond_true, decide_eq_true h1, cond_true, decide_eq_true h2, Bool.not_true, cond_false]
 have : ([] : Lv) ++ [[AV.int f, AV.int t, AV.int 0]] = bL [⟨f, t, 0⟩] := rfl
 rw [this, e1]; rfl
theorem ref13_Made_v (n : Nat) (xs : List (Int × Int × Int)) (hx : ∀ x ∈ xs, In64 x.1 ∧ In64 x.2.1 ∧ In64 x.2.2) (hn : 210 < n) : ∃ l, ref13_Made n (xs.map triR) = some (bL l) ∧ Canon l ∧ l.length ≤ 40 := by
 have main : ∃ q, ref13_Made n (xs.map triR) = some q ∧ ∃ l, q = bL l ∧ Canon l ∧ l.length ≤ 40 := by
  unfold ref13_Made ref13_Made_1
  refine iterF_ex (fun s => ∃ (i : Nat) (l : List B3), s = (bL l, (i : Int)) ∧ i ≤ xs.length ∧ i ≤ 12 ∧ Canon l ∧ l.length ≤ 40) (fun s => 12 - s.2.toNat) _ ?_ n _ ⟨0, [], rfl, by omega, by omega, trivial, by simp⟩ (by simp; omega)
  rintro _ go ⟨i, l, rfl, hi, h12, hc, hl⟩ ih
  simp only at ih ⊢
  unfold ref13_Made_2
  by_cases hlt : i < xs.length
  ·obtain ⟨x, hxx⟩ := get_lt hlt
   have hcell : ∀ k, cA (xs.map triR) (i : Int) k = (triR x).getD k (.int 0) := fun k => cA_map (by simpa using hxx)
   have g0 : cI (xs.map triR) i 0 = x.1 := by simp only [cI, hcell]; rfl
   have g1 : cI (xs.map triR) i 1 = x.2.1 := by simp only [cI, hcell]; rfl
   have g2 : cI (xs.map triR) i 2 = x.2.2 := by simp only [cI, hcell]; rfl
   obtain ⟨x0, x1, x2⟩ := hx x (List.mem_of_getElem? hxx)
   have c1 : (i : Int) < ((xs.map triR).length : Int) := by rw [List.length_map]; omega
   have c2 : (0 : Int) ≤ (i : Int) := by omega
   have c4 : (-9223372036854775808 : Int) ≤ (i : Int) + 1 := by omega
   have c5 : (i : Int) + 1 ≤ (9223372036854775807 : Int) := by omega
   obtain ⟨p0, p1, p2⟩ := pieceR_bd x.1 x.2.1
   have hk := pk_bd x.2.2 (k := 5) (by decide)
   by_cases h2 : (i : Int) < 12
   ·rw [decide_eq_true c1, cond_true, decide_eq_true h2, cond_true, decide_eq_true c2, cond_true, g0, g1, g2, ref13_Piece_v n x0 x1, Option.bind_some, ref13_pick_v n x2 (by decide), Option.bind_some]
    by_cases h3 : pk x.2.2 5 < 4
    ·have d1 : (-9223372036854775808 : Int) ≤ 2 * pk x.2.2 5 := by omega
     have d2 : 2 * pk x.2.2 5 ≤ (9223372036854775807 : Int) := by omega
     obtain ⟨e1, e2⟩ := ref13_Give_v n l _ _ (2 * pk x.2.2 5) hc hl p0 p1 p2 (by omega) (by omega) hn
     obtain ⟨o1, o2⟩ := combR_ok e2
     rw [decide_eq_true h3, cond_true, decide_eq_true d1, decide_eq_true d2, Bool.and_self, cond_true, e1, Option.bind_some, decide_eq_true c4, decide_eq_true c5, Bool.and_self, cond_true]
     exact ih _ ⟨i + 1, _, by simp only; rfl, by omega, by omega, o1, o2⟩ (by first | omega | (simp only; omega))
    ·obtain ⟨e1, e2⟩ := ref13_Take_v n l _ _ hc hl p0 p1 p2 hn
     obtain ⟨o1, o2⟩ := combR_ok e2
     rw [decide_eq_false h3, cond_false, e1, Option.bind_some, decide_eq_true c4, decide_eq_true c5, Bool.and_self, cond_true]
     exact ih _ ⟨i + 1, _, by simp only; rfl, by omega, by omega, o1, o2⟩ (by first | omega | (simp only; omega))
   ·rw [decide_eq_true c1, cond_true, decide_eq_false h2, cond_false]
    exact ⟨_, rfl, l, rfl, hc, hl⟩
  ·have c1 : ¬ (i : Int) < ((xs.map triR).length : Int) := by rw [List.length_map]; omega
   rw [decide_eq_false c1, cond_false]
   exact ⟨_, rfl, l, rfl, hc, hl⟩
 obtain ⟨_, h1, l, rfl, h2, h3⟩ := main
 exact ⟨l, h1, h2, h3⟩
set_option maxRecDepth 100000
theorem block_Valid_v (n : Nat) (l : List B3) (hn : 41 < n) : block_Valid n (bL l) = some (vldB l) := by
 unfold block_Valid block_Valid_1
 by_cases h3 : l.length ≤ 40
 ·have c3 : (l.length : Int) ≤ (40 : Int) := by omega
  have e3 : vldB l = ascB 0 (-1) l := by simp [vldB, h3]
  simp only [List.length_map, c3, decide_true, cond_true, e3]
  refine iterF_ind (fun s => ∃ (i : Nat) (z e k : Int), s = ((i : Int), z, e, k) ∧ i ≤ l.length ∧ ascB 0 (-1) l = ascB e k (l.drop i)) (fun s => l.length - s.1.toNat) _ ?_ n _ ⟨0, 0, 0, -1, rfl, by omega, by simp⟩ (by simp; omega)
  rintro _ go ⟨i, z, e, k, rfl, hi, hE⟩ ih
  simp only at ih ⊢
  unfold block_Valid_2
  by_cases hlt : i < l.length
  ·obtain ⟨b, hb⟩ := get_lt hlt
   obtain ⟨g0, g1, g2⟩ := bcell hb
   have c1 : (i : Int) < (l.length : Int) := by omega
   have c2 : (0 : Int) ≤ (i : Int) := by omega
   have c4 : (-9223372036854775808 : Int) ≤ (i : Int) + 1 := by omega
   have c5 : (i : Int) + 1 ≤ (9223372036854775807 : Int) := by omega
   simp only [g0, g1, g2, List.length_map, c1, c2, c4, c5, decide_true, cond_true, Bool.and_self, Bool.not_true]
   rw [bdrop hb, ascB] at hE
   have hgo : (0 ≤ b.f ∧ b.f < b.t ∧ b.t ≤ 100000000 ∧ 0 ≤ b.c ∧ b.c ≤ 7 ∧ e ≤ b.f ∧ (b.f = e → b.c ≠ k)) → go ((i : Int) + 1, b.f, b.t, b.c) = some (ascB 0 (-1) l) := fun hv => ih _ ⟨i + 1, b.f, b.t, b.c, by simp, by omega, by rw [hE, decide_eq_true hv, Bool.true_and]⟩ (by first | omega | (simp only; omega))
   by_cases hv : (0 ≤ b.f ∧ b.f < b.t ∧ b.t ≤ 100000000 ∧ 0 ≤ b.c ∧ b.c ≤ 7 ∧ e ≤ b.f ∧ (b.f = e → b.c ≠ k))
   ·rw [hgo hv]; grind
   ·have hf : ascB 0 (-1) l = false := by rw [hE, decide_eq_false hv, Bool.false_and]
    rw [hf]; grind
  ·have h0 : i = l.length := by omega
   have c1 : ¬ (i : Int) < (l.length : Int) := by omega
   simp only [List.length_map, c1, decide_false, cond_false]
   rw [hE, h0, List.drop_length]; rfl
 ·have c3 : ¬ (l.length : Int) ≤ (40 : Int) := by omega
  have e3 : vldB l = false := by simp [vldB, h3]
  simp only [List.length_map, c3, decide_false, cond_false, e3]
def findR (l : List B3) (k : Int) : Int × Bool := if hold l k = -1 then (0, false) else (hold l k, true)
theorem block_Find_v (n : Nat) (l : List B3) (k : Int) (hc : Canon l) (hl : l.length ≤ 40) (hn : 41 < n) : block_Find n (bL l) k = some (findR l k) := by
 have hV : vldB l = true := (vldB_iff l).2 ⟨hl, hc⟩
 unfold block_Find block_Find_1
 refine iterF_ind (fun s => ∃ i : Nat, s = (i : Int) ∧ i ≤ l.length ∧ hold l k = hold (l.drop i) k) (fun s => l.length - s.toNat) _ ?_ n _ ⟨0, rfl, by omega, by simp⟩ (by simp; omega)
 rintro _ go ⟨i, rfl, hi, hE⟩ ih
 unfold block_Find_2
 by_cases hlt : i < l.length
 ·obtain ⟨b, hb⟩ := get_lt hlt
  obtain ⟨g0, g1, g2⟩ := bcell hb
  have hbd := asc_bd hc (List.mem_of_getElem? hb)
  have c1 : (i : Int) < (l.length : Int) := by omega
  have c2 : (0 : Int) ≤ (i : Int) := by omega
  have c3 : ¬ (i : Int) < 0 := by omega
  have c4 : (-9223372036854775808 : Int) ≤ (i : Int) + 1 := by omega
  have c5 : (i : Int) + 1 ≤ (9223372036854775807 : Int) := by omega
  simp only [g0, g1, g2, List.length_map, c1, c2, c3, c4, c5, decide_true, decide_false, cond_true, cond_false, Bool.and_self, block_Valid_v n l hn, Option.bind_some, hV, Bool.not_true]
  rw [bdrop hb, hold] at hE
  have hgo : ¬ (b.f ≤ k ∧ k < b.t) → go ((i : Int) + 1) = some (findR l k) := fun hv => ih _ ⟨i + 1, by simp, by omega, by rw [hE, if_neg hv]⟩ (by first | omega | (simp only; omega))
  by_cases hv : b.f ≤ k ∧ k < b.t
  ·rw [if_pos hv] at hE
   rw [decide_eq_true hv.1, decide_eq_true hv.2]
   unfold findR
   rw [hE, if_neg (by omega)]; rfl
  ·rw [hgo hv]; grind
 ·have h0 : i = l.length := by omega
  have c1 : ¬ (i : Int) < (l.length : Int) := by omega
  rw [h0, List.drop_length] at hE
  simp only [List.length_map, c1, decide_false, cond_false]
  unfold findR
  rw [hE]
  rfl
theorem block_pieces_1_v (n : Nat) (l : List B3) (k : Int) (hn : l.length < n) : block_pieces_1 n (bL l) k = some (bL (at_ l k).1, (at_ l k).2.1, (at_ l k).2.2) := by
 unfold block_pieces_1 block_pieces_1_1
 refine iterF_ind (fun s => ∃ m : List B3, s = bL m ∧ at_ m k = at_ l k) (fun s => s.length) _ ?_ n _ ⟨l, rfl, rfl⟩ (by simp; omega)
 rintro _ go ⟨m, rfl, hE⟩ ih
 unfold block_pieces_1_2
 cases m with
 | nil =>
  rw [← hE]
  simp [at_]
 | cons b m =>
  have hb : (b :: m)[0]? = some b := rfl
  obtain ⟨g0, g1, g2⟩ := bcell hb
  have c1 : (0 : Int) < ((bL (b :: m)).length : Int) := by simp
  have c2 : (1 : Int) ≤ ((bL (b :: m)).length : Int) := by omega
  have c3 : ((bL (b :: m)).length : Int) ≤ ((bL (b :: m)).length : Int) := Int.le_refl _
  have c4 : ¬ ((bL (b :: m)).length : Int) = 0 := by omega
  have hd : List.drop ((1 : Int)).toNat (List.take (((bL (b :: m)).length : Int)).toNat (bL (b :: m))) = bL m := by
   rw [show (((bL (b :: m)).length : Int)).toNat = (bL (b :: m)).length from by omega, List.take_length]; rfl
  have g0 : cI (bL (b :: m)) 0 0 = b.f := g0
  have g1 : cI (bL (b :: m)) 0 1 = b.t := g1
  have g2 : cI (bL (b :: m)) 0 2 = b.c := g2
  rw [decide_eq_true c1, cond_true, decide_eq_true c2, cond_true, decide_eq_true c3, cond_true, decide_eq_false c4, cond_false, hd, g0, g1, g2]
  rw [at_] at hE
  by_cases h1 : b.t ≤ k
  ·rw [if_pos h1] at hE
   rw [decide_eq_true h1, cond_true]
   exact ih _ ⟨m, rfl, hE⟩ (by simp)
  ·rw [if_neg h1] at hE
   rw [decide_eq_false h1, cond_false]
   by_cases h2 : k < b.f
   ·rw [if_pos h2] at hE; rw [decide_eq_true h2, cond_true, ← hE]
   ·rw [if_neg h2] at hE; rw [decide_eq_false h2, cond_false, ← hE]
def growP {α : Type} (go : Lv → Option α) (v6 : Lv) (P Q y : Int) : Option α :=
 (bif (decide (0 < (v6.length : Int))) then bif ((decide ((-9223372036854775808) ≤ ((v6.length : Int) - 1))) && (decide (((v6.length : Int) - 1) ≤ 9223372036854775807))) then bif (decide (0 ≤ ((v6.length : Int) - 1))) then bif (decide (((v6.length : Int) - 1) < (v6.length : Int))) then (bif (decide ((cI v6 ((v6.length : Int) - 1) 1) = P)) then (bif (decide ((cI v6 ((v6.length : Int) - 1) 2) = y)) then go (List.modify v6 (((v6.length : Int) - 1)).toNat (fun r => r.set 1 (AV.int Q)))
 else bif (decide ((((v6.length : Int) + 1) * 24) ≤ 140737488355328)) then go (v6 ++ [[(AV.int P), (AV.int Q), (AV.int y)]]) else none)
 else bif (decide ((((v6.length : Int) + 1) * 24) ≤ 140737488355328)) then go (v6 ++ [[(AV.int P), (AV.int Q), (AV.int y)]]) else none) else none else none else none
 else bif (decide ((((v6.length : Int) + 1) * 24) ≤ 140737488355328)) then go (v6 ++ [[(AV.int P), (AV.int Q), (AV.int y)]]) else none)
theorem growP_v {α : Type} (go : Lv → Option α) (o : List B3) (p q y : Int) (hy : y ≠ -1) (hl : o.length ≤ 100000000) : growP go (bL o) p q y = go (bL (Dial.Blk.step o p q y)) := by
 unfold growP
 rcases List.eq_nil_or_concat o with rfl | ⟨l, b, rfl⟩
 ·rw [step_nil _ _ _ hy, decide_eq_false (by simp : ¬ (0 : Int) < ((bL []).length : Int)), cond_false, decide_eq_true (by simp : (((bL []).length : Int) + 1) * 24 ≤ 140737488355328), cond_true]
  rfl
 ·rw [List.concat_eq_append] at *
  have hb : (l ++ [b])[l.length]? = some b := by simp
  obtain ⟨g0, g1, g2⟩ := bcell hb
  have hlen : ((bL (l ++ [b])).length : Int) = (l.length : Int) + 1 := by simp
  have hle : l.length ≤ 100000000 := by simp at hl; omega
  have e1 : ((bL (l ++ [b])).length : Int) - 1 = (l.length : Int) := by omega
  have e3 : (l.length : Int).toNat = l.length := by omega
  rw [e1, g1, g2, e3, bmod]
  have k1 : (0 : Int) < ((bL (l ++ [b])).length : Int) := by omega
  have k2 : (-9223372036854775808 : Int) ≤ (l.length : Int) := by omega
  have k3 : (l.length : Int) ≤ 9223372036854775807 := by omega
  have k4 : (0 : Int) ≤ (l.length : Int) := by omega
  have k5 : (l.length : Int) < ((bL (l ++ [b])).length : Int) := by omega
  have k6 : (((bL (l ++ [b])).length : Int) + 1) * 24 ≤ 140737488355328 := by omega
  rw [step_snoc _ _ _ _ _ hy, decide_eq_true k1, cond_true, decide_eq_true k2, decide_eq_true k3, Bool.and_self, cond_true, decide_eq_true k4, cond_true, decide_eq_true k5, cond_true, decide_eq_true k6]
  simp only [cond_true]
  by_cases h1 : b.t = p
  ·by_cases h2 : b.c = y
   ·rw [decide_eq_true h1, decide_eq_true h2, if_pos ⟨h1, h2⟩, ← h2]; simp only [cond_true]
   ·rw [decide_eq_true h1, decide_eq_false h2, if_neg (fun h => h2 h.2)]; simp only [cond_true, cond_false]; rw [bL_app (l ++ [b])]; rfl
  ·rw [decide_eq_false h1, if_neg (fun h => h1 h.1)]; simp only [cond_false]; rw [bL_app (l ++ [b])]; rfl
def overR (x y : Int) : Int := if y = -1 then x else y
theorem overR_bd (x y : Int) (h1 : -1 ≤ x) (h2 : x ≤ 7) (h3 : -1 ≤ y) (h4 : y ≤ 7) : -1 ≤ overR x y ∧ overR x y ≤ 7 := by unfold overR; split <;> omega
theorem block_Give_v (n : Nat) (l : List B3) (f t c : Int) (hc : Canon l) (hl : l.length ≤ 40) (h0 : 0 ≤ f) (h1 : f < t) (h2 : t ≤ 100000000) (h3 : 0 ≤ c) (h4 : c ≤ 7) (hn : 100000001 < n) :
  block_Give n (bL l) f t c = some (bL (combR fun m => overR (hold l m) (hold [⟨f, t, c⟩] m)).1, (combR fun m => overR (hold l m) (hold [⟨f, t, c⟩] m)).2) ∧ IsMap (fun m => overR (hold l m) (hold [⟨f, t, c⟩] m)) (mapOf fun m => overR (hold l m) (hold [⟨f, t, c⟩] m)) := by
 have hV : vldB l = true := (vldB_iff l).2 ⟨hl, hc⟩
 have key : ∀ (R : List B3 × Int), (∀ o, IsMap (fun m => overR (hold l m) (hold [⟨f, t, c⟩] m)) o → R = if o.length ≤ 40 then (o, 0) else ([], 130)) → block_Give n (bL l) f t c = some (bL R.1, R.2) := by
  intro R hR
  unfold block_Give block_Give_1
  rw [block_Valid_v n l (by omega), Option.bind_some, hV]
  unfold block_Give_2 block_Give_3 block_Give_4 block_Give_5 block_Give_6 block_Give_7
  rw [Bool.not_true, cond_false, decide_eq_true h0, cond_true, decide_eq_true h1, cond_true, decide_eq_true h2, Bool.not_true, cond_false, decide_eq_true h3, cond_true, decide_eq_true h4, Bool.not_true, cond_false]
  refine iterF_ind (fun s => ∃ (p : Int) (o a b : List B3), s = (p, bL o, bL a, bL b) ∧ PInv overR (hold l) (hold [⟨f, t, c⟩]) p o a b ∧ a.length ≤ 40 ∧ b.length ≤ 1) (fun s => (100000000 - s.1).toNat) _ ?_ n _ ⟨0, [], l, [⟨f, t, c⟩], rfl, PInv.begin _ hc (canon_one h0 h1 h2 h3 h4), hl, by simp⟩ (by first | omega | (simp only; omega))
  rintro _ go ⟨p, o, a, b, rfl, hI, hal, hbl⟩ ih
  simp only at ih ⊢
  unfold block_Give_8
  have hlo := hI.lo
  have hhi := hI.hi
  have hlen := hI.len
  by_cases hp : p ≤ 99999999
  ·obtain ⟨n1, n2⟩ := hI.next overR_bd (by omega)
   have sa := at_suffix a p
   have sb := at_suffix b p
   have la : (at_ a p).1.length ≤ a.length := by obtain ⟨pre, h⟩ := sa; have := congrArg List.length h; simp at this; omega
   have lb : (at_ b p).1.length ≤ b.length := by obtain ⟨pre, h⟩ := sb; have := congrArg List.length h; simp at this; omega
   rw [decide_eq_true hp, cond_true, block_pieces_1_v n a p (by omega), Option.bind_some, block_pieces_1_v n b p (by omega), Option.bind_some]
   simp only [imin_min]
   have hgo := ih (min (at_ a p).2.2 (at_ b p).2.2, bL (Dial.Blk.step o p (min (at_ a p).2.2 (at_ b p).2.2) (overR (at_ a p).2.1 (at_ b p).2.1)), bL (at_ a p).1, bL (at_ b p).1) ⟨_, _, _, _, rfl, n2, by omega, by omega⟩ (by first | omega | (simp only; omega))
   by_cases hy : (at_ b p).2.1 = -1
   ·rw [decide_eq_true hy, Bool.not_true, cond_false]
    have e : overR (at_ a p).2.1 (at_ b p).2.1 = (at_ a p).2.1 := by unfold overR; rw [if_pos hy]
    rw [e] at hgo
    by_cases hx : (at_ a p).2.1 = -1
    ·rw [decide_eq_true hx, cond_true]
     rw [hx, step_none] at hgo
     exact hgo
    ·rw [decide_eq_false hx, cond_false]
     exact (growP_v (fun out => go (min (at_ a p).2.2 (at_ b p).2.2, out, bL (at_ a p).1, bL (at_ b p).1)) o p _ _ hx (by omega)).trans hgo
   ·rw [decide_eq_false hy, Bool.not_false, cond_true]
    have e : overR (at_ a p).2.1 (at_ b p).2.1 = (at_ b p).2.1 := by unfold overR; rw [if_neg hy]
    rw [e] at hgo
    exact (growP_v (fun out => go (min (at_ a p).2.2 (at_ b p).2.2, out, bL (at_ a p).1, bL (at_ b p).1)) o p _ _ hy (by omega)).trans hgo
  ·obtain ⟨d1, d2, d3⟩ := hI.done hp
   rw [decide_eq_false hp, cond_false, hR o d1]
   have hlo : ((bL o).length : Int) = (o.length : Int) := by simp
   rw [hlo]
   by_cases h40 : o.length ≤ 40
   ·rw [decide_eq_false (by omega : ¬ (40 : Int) < (o.length : Int)), if_pos h40]; rfl
   ·rw [decide_eq_true (by omega : (40 : Int) < (o.length : Int)), if_neg h40]; rfl
 have hex : ∃ o, IsMap (fun m => overR (hold l m) (hold [⟨f, t, c⟩] m)) o := by
  have := fold_pieces overR overR_bd (hold l) (hold [⟨f, t, c⟩]) (n := 0) (a := l) (b := [⟨f, t, c⟩]) ⟨_, _, hc⟩ ⟨_, _, canon_one h0 h1 h2 h3 h4⟩ (by decide) (by decide) (fun _ _ => rfl) (fun _ _ => rfl) (out := []) (Upto.nil _)
  exact ⟨_, this.isMap⟩
 obtain ⟨o, ho⟩ := hex
 refine ⟨key _ fun o' ho' => ?_, by rw [mapOf_eq ho]; exact ho⟩
 unfold combR
 rw [mapOf_eq ho']
end Go.Proofs.YtjllgiddmeiaoaaGreat
set_option maxRecDepth 100000
namespace Go.Proofs.YtjllgiddmeiaoaaGreat
open Go Go.Sx Go.Dial.Clm Go.Dial.Lif Go.Dial.Chn
open Go.Dial.Blk (B3 Canon hold mapOf IsMap combR mapOf_eq)
theorem with_bd {c : Ch} (hV : ChV c) (G : List Int) : 0 ≤ withV c G ∧ withV c G ≤ 7 := by
 cases G with
 | nil => exact ⟨hV.2.2.2.1, hV.2.2.2.2.1⟩
 | cons x G =>
  show 0 ≤ (portAt c x).c.t ∧ (portAt c x).c.t ≤ 7
  unfold portAt
  cases hp : c.ps[x.toNat]? with
  | none => simp [noPt]
  | some p =>
   have := (ch_clm hV hp).2.1
   unfold ClV at this
   simp only [Option.getD_some]; omega
theorem tw_take {α : Type} {q : α → Bool} : ∀ {l : List α} {i : Nat}, (∀ j x, j < i → l[j]? = some x → q x = true) → (∀ x, l[i]? = some x → q x = false) → l.takeWhile q = l.take i
 | [], i, _, _ => by simp
 | x :: l, 0, _, h2 => by simp [List.takeWhile, h2 x rfl]
 | x :: l, i + 1, h1, h2 => by
  rw [List.takeWhile_cons_of_pos (h1 0 x (by omega) rfl), List.take_succ_cons, tw_take (i := i) (fun j y hj hy => h1 (j + 1) y (by omega) (by simpa using hy)) (fun y hy => h2 y (by simpa using hy))]
def whoI (c : Ch) (i : Nat) : Int := withV c (lastG ((turnsV c).take i) [])
theorem who_at {c : Ch} {i : Nat} {t : Int} (h1 : ∀ j x, j < i → (turnsV c)[j]? = some x → x.a ≤ t) (h2 : ∀ x, (turnsV c)[i]? = some x → t < x.a) : withV c (forceAt c t) = whoI c i := by
 rw [forceAt_last]
 unfold whoI
 rw [tw_take (i := i) (fun j x hj hx => decide_eq_true (h1 j x hj hx)) (fun x hx => decide_eq_false (by have := h2 x hx; omega))]
theorem over_one {l : List B3} {N w m : Int} : overR (hold l m) (hold [⟨N, N + 1, w⟩] m) = if m = N ∧ w ≠ -1 then w else hold l m := by
 unfold overR
 by_cases h : m = N
 ·subst h
  rw [show hold [⟨m, m + 1, w⟩] m = w from Go.Dial.Blk.hold_in [] ⟨Int.le_refl _, by show m < m + 1; omega⟩]
  by_cases hw : w = -1
  ·rw [if_pos hw, if_neg (fun h => h.2 hw)]
  ·rw [if_neg hw, if_pos ⟨rfl, hw⟩]
 ·rw [show hold [⟨N, N + 1, w⟩] m = -1 from Go.Dial.Blk.hold_out [] (fun hh => by have h1 : N ≤ m := hh.1; have h2 : m < N + 1 := hh.2; omega), if_pos rfl, if_neg (fun hh => h hh.1)]
theorem give_one (n : Nat) {l : List B3} {N w : Int} (hc : Canon l) (hl : l.length ≤ 40) (h0 : 0 ≤ N) (h1 : N ≤ 99999999) (h3 : 0 ≤ w) (h4 : w ≤ 7) (hn : 100000001 < n) :
  block_Give n (bL l) N (N + 1) w = some (([] : Lv), 130) ∨ ∃ o, block_Give n (bL l) N (N + 1) w = some (bL o, 0) ∧ Canon o ∧ o.length ≤ 40 ∧ ∀ m, 0 ≤ m → m < 100000000 → hold o m = if m = N then w else hold l m := by
 obtain ⟨e1, e2⟩ := block_Give_v n l N (N + 1) w hc hl h0 (by omega) (by omega) h3 h4 hn
 rw [e1]
 unfold combR
 split
 ·rename_i hlen
  refine .inr ⟨_, rfl, e2.1, hlen, fun m m0 m1 => ?_⟩
  rw [e2.2 m m0 m1]
  show overR _ _ = _
  rw [over_one]
  by_cases hm : m = N
  ·rw [if_pos ⟨hm, by omega⟩, if_pos hm]
  ·rw [if_neg (fun h => hm h.1), if_neg hm]
 ·exact .inl rfl
theorem tn_cell0 {T : List Mo} {i : Nat} {m : Mo} (h : T[i]? = some m) : cI (tnL T) (i : Int) 0 = m.a := by
 have hc : ∀ k, cA (tnL T) (i : Int) k = (tnR m).getD k (.int 0) := fun k => cA_map (by simpa using h)
 simp only [cI, hc]; rfl
theorem law17_ChainMaps_v (n : Nat) (X : Nums) (hX : X.ok) (zs : List (Int × Int × Int)) (hz : ∀ x ∈ zs, In64 x.1 ∧ In64 x.2.1 ∧ In64 x.2.2) (v9 v10 : Int) (h9 : In64 v9) (h10 : In64 v10) (hn : 100000001 < n) :
  law17_ChainMaps n X.v0 X.v1 X.v2 X.v3 X.v4 X.v5 (X.xs.map triR) (X.ys.map pnR) (zs.map triR) v9 v10 = some true := by
 obtain ⟨c, hM, hG, hl, hp, hgp⟩ := made_of n X hX (by omega)
 obtain ⟨before, hB, hBc, hBl⟩ := ref13_Made_v n zs hz (by omega)
 have hV := hG.1
 obtain ⟨q1, q2, q3, q4, q5, q6, q7⟩ := id hV
 obtain ⟨t, hTm, t0, t1⟩ := ref17_Time_v n c v9 hV h9 (by omega)
 have hT := chain_Turns_v n c (by omega) (by omega)
 rw [if_pos hV] at hT
 have hAt : ∀ u, 0 ≤ u → u ≤ 20000000 → chain_At n c.n c.f c.r.a c.r.c c.r.s c.r.r (evL c.life) (ptL c.ps) u = some (withV c (forceAt c u), foL (forceAt c u), 0) := fun u u0 u1 => by
  rw [chain_At_v n c u (by omega) (by omega), if_pos ⟨hV, u0, u1⟩]
 have hk := pk_bd v10 (k := 100000000) (by decide)
 have d1 : (-9223372036854775808 : Int) ≤ c.n + 1 := by omega
 have d2 : c.n + 1 ≤ (9223372036854775807 : Int) := by omega
 unfold law17_ChainMaps law17_ChainMaps_1
 rw [show law17_sane n = some true from rfl, Option.bind_some]
 unfold law17_ChainMaps_2
 rw [Bool.not_true, cond_false, hM, Option.bind_some]
 simp only
 rw [decide_eq_true d1, decide_eq_true d2, Bool.and_self, cond_true, hB, Option.bind_some]
 rcases give_one n hBc hBl q2 q3 q4 q5 hn with g | ⟨m0, g, gc, gl, gh⟩
 ·rw [g, Option.bind_some, hT, Option.bind_some, hTm, Option.bind_some]
  rfl
 ·rw [g, Option.bind_some, hT, Option.bind_some, hTm, Option.bind_some]
  simp only
  rw [decide_true, Bool.not_true, cond_false, cond_false]
  have hsort := turns_sorted c
  have hTl : (tnL (turnsV c)).length = (turnsV c).length := by rw [List.length_map]
  have hTn : (turnsV c).length < 100000000 := by
   have h2 := moms_len c (hps c) []
   have h3 := hps_len c
   show (moms c [] (hps c)).length < 100000000
   simp only [List.length_nil] at h2
   omega
  refine iterF_ind (fun s : law17_ChainMaps_s0 => ∃ (i : Nat) (m : List B3), s = (bL m, (i : Int)) ∧ i ≤ (turnsV c).length ∧ Canon m ∧ m.length ≤ 40 ∧ (∀ j x, j < i → (turnsV c)[j]? = some x → x.a ≤ t) ∧ ∃ w, (i = 0 → w = c.f) ∧ (∀ j, i = j + 1 → ∃ x, (turnsV c)[j]? = some x ∧ w = withV c (forceAt c x.a)) ∧ ∀ u, 0 ≤ u → u < 100000000 → hold m u = if u = c.n then w else hold before u) (fun s => (turnsV c).length - s.2.toNat) _ ?_ n _ ⟨0, m0, rfl, by omega, gc, gl, fun j x hj => by omega, c.f, fun _ => rfl, fun j hj => by omega, gh⟩ (by first | omega | (simp only; omega))
  rintro _ go ⟨i, m, rfl, hi, mc, ml, hj, w, hw0, hw1, hh⟩ ih
  simp only at ih ⊢
  unfold law17_ChainMaps_3
  have c2 : (0 : Int) ≤ (i : Int) := by omega
  have fin : (∀ x, (turnsV c)[i]? = some x → t < x.a) → ((chain_At n c.n c.f c.r.a c.r.c c.r.s c.r.r (evL c.life) (ptL c.ps) t).bind fun y28 =>
    (block_Find n (bL m) c.n).bind fun y31 =>
    (law17_pick n v10 100000000).bind fun y33 =>
    (block_Find n (bL before) y33).bind fun y34 =>
    (block_Find n (bL m) y33).bind fun y36 =>
    (bif (decide (y28.2.2 = 0)) then (bif y31.2 then (bif (decide (y31.1 = y28.1)) then (bif (decide (y33 = c.n)) then some true
    else (bif (decide (y34.1 = y36.1)) then some (y34.2 == y36.2)
    else some false))
    else some false)
    else some false)
    else some false)) = some true := fun hx => by
   have hw := who_at hj hx
   have hww : w = whoI c i := by
    cases i with
    | zero => rw [hw0 rfl]; rfl
    | succ j =>
     obtain ⟨y, hy, rfl⟩ := hw1 j rfl
     refine who_at (fun k z hk hz => ?_) (fun z hz => ?_)
     ·rcases Nat.lt_or_ge k j with h | h
      ·obtain ⟨k1, rfl⟩ := List.getElem?_eq_some_iff.1 hz
       obtain ⟨k2, rfl⟩ := List.getElem?_eq_some_iff.1 hy
       exact List.pairwise_iff_getElem.1 hsort k j k1 k2 h
      ·have : k = j := by omega
       subst this
       rw [hy] at hz; cases hz; exact Int.le_refl _
     ·have h1 := hx z hz
      have h2 := hj j y (by omega) hy
      exact Int.lt_of_le_of_lt h2 h1
   have hwb := with_bd hV (forceAt c t)
   have e1 : hold m c.n = withV c (forceAt c t) := by rw [hh c.n q2 (by omega), if_pos rfl, hww, hw]
   have f1 : findR m c.n = (withV c (forceAt c t), true) := by unfold findR; rw [e1, if_neg (by omega)]
   rw [hAt t t0 t1, Option.bind_some, block_Find_v n m c.n mc ml (by omega), Option.bind_some, law17_pick_v n h10 (by decide), Option.bind_some, block_Find_v n before _ hBc hBl (by omega), Option.bind_some, block_Find_v n m _ mc ml (by omega), Option.bind_some, f1]
   simp only
   simp only [decide_true, cond_true]
   by_cases he : pk v10 100000000 = c.n
   ·rw [decide_eq_true he, cond_true]
   ·have e2 : hold m (pk v10 100000000) = hold before (pk v10 100000000) := by rw [hh _ hk.1 hk.2, if_neg he]
    have e3 : findR m (pk v10 100000000) = findR before (pk v10 100000000) := by unfold findR; rw [e2]
    rw [decide_eq_false he, cond_false, e3]
    simp
  by_cases hlt : i < (turnsV c).length
  ·obtain ⟨x, hx⟩ := get_lt hlt
   have hbd := turns_bd hG x (List.mem_of_getElem? hx)
   have c1 : (i : Int) < ((tnL (turnsV c)).length : Int) := by omega
   have c4 : (-9223372036854775808 : Int) ≤ (i : Int) + 1 := by omega
   have c5 : (i : Int) + 1 ≤ (9223372036854775807 : Int) := by omega
   rw [decide_eq_true c1, cond_true, decide_eq_true c2, cond_true, tn_cell0 hx]
   by_cases hxt : x.a ≤ t
   ·have hwb := with_bd hV (forceAt c x.a)
    rw [decide_eq_true hxt, cond_true, hAt x.a hbd.1 (by omega), Option.bind_some]
    simp only
    rcases give_one n mc ml q2 q3 hwb.1 hwb.2 hn with g | ⟨o, g, oc, ol, oh⟩
    ·rw [g, Option.bind_some]; rfl
    ·rw [g, Option.bind_some]
     simp only
     rw [decide_true, Bool.not_true, cond_false, cond_false, decide_eq_true c4, decide_eq_true c5, Bool.and_self, cond_true]
     refine ih _ ⟨i + 1, o, rfl, by omega, oc, ol, fun j y hj2 hy => ?_, _, fun h => by omega, fun j hj2 => ⟨x, by rw [show j = i by omega]; exact hx, rfl⟩, fun u u0 u1 => ?_⟩ (by first | omega | (simp only; omega))
     ·rcases Nat.lt_or_ge j i with h | h
      ·exact hj j y h hy
      ·have : j = i := by omega
       subst this
       rw [hx] at hy; cases hy; exact hxt
     ·rw [oh u u0 u1]
      by_cases hu : u = c.n
      ·rw [if_pos hu, if_pos hu]
      ·rw [if_neg hu, if_neg hu, hh u u0 u1, if_neg hu]
   ·rw [decide_eq_false hxt, cond_false]
    exact fin fun y hy => by rw [hx] at hy; cases hy; exact Int.not_le.1 hxt
  ·have c1 : ¬ (i : Int) < ((tnL (turnsV c)).length : Int) := by omega
   rw [decide_eq_false c1, cond_false]
   exact fin fun y hy => by rw [List.getElem?_eq_none (by omega)] at hy; cases hy
theorem law17_ChainMaps_law : ∀ s : tupT (Ps.tys law17_ChainMaps_t.ps), TupOk (Ps.tys law17_ChainMaps_t.ps) s → ∃ n z, law17_ChainMaps_t.fn n s = some z ∧ rdec law17_ChainMaps_t.sh z = .b true := by
 rintro ⟨v0, v1, v2, v3, v4, v5, v6, v7, v8, v9, v10⟩ hs
 obtain ⟨⟨X, hX, rfl, rfl, rfl, rfl, rfl, rfl, rfl, rfl⟩, hr⟩ := nums_of (rest := [.sl (.cons .int (.cons .int (.cons .int .nil))) v8, .int v9, .int v10]) hs
 have h8 : AVok (.sl (.cons .int (.cons .int (.cons .int .nil))) v8) := hr _ (by simp)
 obtain ⟨zs, rfl, hz⟩ := tris_of (t := .cons .int (.cons .int (.cons .int .nil))) rfl h8
 exact ⟨100000002, true, law17_ChainMaps_v 100000002 X hX zs hz v9 v10 (int_of (hr _ (by simp))) (int_of (hr _ (by simp))) (by decide), rfl⟩
end Go.Proofs.YtjllgiddmeiaoaaGreat
