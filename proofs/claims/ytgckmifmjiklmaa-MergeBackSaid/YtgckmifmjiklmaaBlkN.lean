/-
  Plain mathematics of maps of blocks: the canonical list that is held so; laid over another one; ends, sorted.
-/
import Derived.Test.YtgckmifmjiklmaaBlkM
set_option linter.unusedVariables false
set_option linter.unusedSimpArgs false
namespace Go.Dial.Blk
/-- the canonical list that is held as g says -/
def IsMap (g : Int → Int) (o : List B3) : Prop := Canon o ∧ ∀ n, 0 ≤ n → n < 100000000 → hold o n = g n
theorem IsMap.uniq {g : Int → Int} {a b : List B3} (ha : IsMap g a) (hb : IsMap g b) : a = b := Canon.uniq ha.1 hb.1 fun n h1 h2 => by rw [ha.2 n h1 h2, hb.2 n h1 h2]
theorem IsMap.congr {g g' : Int → Int} {a : List B3} (ha : IsMap g a) (h : ∀ n, 0 ≤ n → n < 100000000 → g n = g' n) : IsMap g' a := ⟨ha.1, fun n h1 h2 => by rw [ha.2 n h1 h2, h n h1 h2]⟩
open Classical in
noncomputable def mapOf (g : Int → Int) : List B3 := if h : ∃ o, IsMap g o then h.choose else []
theorem mapOf_eq {g : Int → Int} {o : List B3} (h : IsMap g o) : mapOf g = o := by
  unfold mapOf
  rw [dif_pos ⟨o, h⟩]
  exact (Exists.choose_spec (p := fun o => IsMap g o) ⟨o, h⟩).uniq h
theorem Upto.isMap {g : Int → Int} {o : List B3} (h : Upto g 100000000 o) : IsMap g o := ⟨h.1, fun n h1 h2 => by rw [h.2.2 n, if_pos ⟨h1, h2⟩]⟩
theorem Canon.isMap {l : List B3} (h : Canon l) : IsMap (hold l) l := ⟨h, fun _ _ _ => rfl⟩
theorem mapOf_hold {l : List B3} (h : Canon l) : mapOf (hold l) = l := mapOf_eq h.isMap
theorem hold_out_bd {l : List B3} {e k n : Int} (h : Asc e k l) (hn : n < 0 ∨ 100000000 ≤ n) : hold l n = -1 := by
  have h1 := hold_range h n
  by_cases h2 : 0 ≤ hold l n
  · have := hold_bd h h2; omega
  · omega
/-- what a list of blocks and an error are: too many are none -/
noncomputable def combR (g : Int → Int) : List B3 × Int := if (mapOf g).length ≤ 40 then (mapOf g, 0) else ([], 130)
/-- numbers, ascending, each once -/
def putI : List Int → Int → List Int
  | [], n => [n]
  | x :: l, n => if x < n then x :: putI l n else if x = n then x :: l else n :: x :: l
theorem putI_mem {l : List Int} {n y : Int} : y ∈ putI l n ↔ y = n ∨ y ∈ l := by
  induction l with
  | nil => simp [putI]
  | cons x l ih =>
    unfold putI
    split
    · simp only [List.mem_cons, ih]; grind
    · split
      · rename_i h; subst h; simp only [List.mem_cons]; grind
      · simp only [List.mem_cons]
theorem putI_sorted {l : List Int} {n : Int} (h : l.Pairwise (· < ·)) : (putI l n).Pairwise (· < ·) := by
  induction l with
  | nil => simp [putI]
  | cons x l ih =>
    rw [List.pairwise_cons] at h
    unfold putI
    split
    · rename_i hx
      rw [List.pairwise_cons]
      refine ⟨fun y hy => ?_, ih h.2⟩
      rcases putI_mem.1 hy with rfl | hy
      · exact hx
      · exact h.1 y hy
    · split
      · rw [List.pairwise_cons]; exact h
      · rename_i h1 h2
        rw [List.pairwise_cons, List.pairwise_cons]
        refine ⟨fun y hy => ?_, h⟩
        rcases List.mem_cons.1 hy with rfl | hy
        · omega
        · have := h.1 y hy; omega
theorem putI_len (l : List Int) (n : Int) : (putI l n).length ≤ l.length + 1 := by
  induction l with
  | nil => simp [putI]
  | cons x l ih =>
    unfold putI
    split
    · simp; omega
    · split <;> simp
/-- the ends of a map's ranges put to others -/
def putB (o : List Int) (l : List B3) : List Int := l.foldl (fun o b => putI (putI o b.f) b.t) o
theorem putB_mem (l : List B3) : ∀ (o : List Int) (y : Int), y ∈ putB o l ↔ y ∈ o ∨ ∃ b ∈ l, y = b.f ∨ y = b.t := by
  induction l with
  | nil => intro o y; simp [putB]
  | cons b l ih =>
    intro o y
    show y ∈ putB (putI (putI o b.f) b.t) l ↔ _
    rw [ih, putI_mem, putI_mem]
    simp only [List.mem_cons, exists_eq_or_imp]
    grind
theorem putB_sorted (l : List B3) : ∀ (o : List Int), o.Pairwise (· < ·) → (putB o l).Pairwise (· < ·) := by
  induction l with
  | nil => intro o h; exact h
  | cons b l ih => intro o h; exact ih _ (putI_sorted (putI_sorted h))
theorem putB_len (l : List B3) : ∀ (o : List Int), (putB o l).length ≤ o.length + 2 * l.length := by
  induction l with
  | nil => intro o; simp [putB]
  | cons b l ih =>
    intro o
    have h1 := ih (putI (putI o b.f) b.t)
    have h2 := putI_len (putI o b.f) b.t
    have h3 := putI_len o b.f
    show (putB (putI (putI o b.f) b.t) l).length ≤ _
    simp only [List.length_cons]; omega
def edgesI (a b : List B3) : List Int := putB (putB [0, 100000000] a) b
theorem asc_bd {l : List B3} {e k : Int} (h : Asc e k l) {b : B3} (hb : b ∈ l) : 0 ≤ b.f ∧ b.f < b.t ∧ b.t ≤ 100000000 ∧ 0 ≤ b.c ∧ b.c ≤ 7 := by
  induction l generalizing e k with
  | nil => simp at hb
  | cons x l ih =>
    obtain ⟨x1, x2, x3, x4, x5, x6, x7, x8⟩ := h
    rcases List.mem_cons.1 hb with rfl | hb
    · exact ⟨x1, x2, x3, x4, x5⟩
    · exact ih x8 hb
/-- the ends of two maps: from 0 to all numbers, ascending -/
structure Edges (a b : List B3) (E : List Int) : Prop where
  sorted : E.Pairwise (· < ·)
  first : E[0]? = some 0
  last : E[E.length - 1]? = some 100000000
  two : 2 ≤ E.length
  mem : ∀ c, c ∈ a ∨ c ∈ b → c.f ∈ E ∧ c.t ∈ E
theorem sorted_get {E : List Int} (h : E.Pairwise (· < ·)) {i j : Nat} {x y : Int} (hi : E[i]? = some x) (hj : E[j]? = some y) (hij : i < j) : x < y := by
  obtain ⟨h1, rfl⟩ := List.getElem?_eq_some_iff.1 hi
  obtain ⟨h2, rfl⟩ := List.getElem?_eq_some_iff.1 hj
  exact List.pairwise_iff_getElem.1 h i j h1 h2 hij
theorem edges_of {a b : List B3} (ha : Canon a) (hb : Canon b) : Edges a b (edgesI a b) := by
  have hs : (edgesI a b).Pairwise (· < ·) := putB_sorted _ _ (putB_sorted _ _ (by decide))
  have hm : ∀ y, y ∈ edgesI a b ↔ (y = 0 ∨ y = 100000000) ∨ (∃ c ∈ a, y = c.f ∨ y = c.t) ∨ ∃ c ∈ b, y = c.f ∨ y = c.t := fun y => by
    unfold edgesI
    rw [putB_mem, putB_mem]
    simp only [List.mem_cons, List.not_mem_nil, or_false, or_assoc]
  have hbd : ∀ y ∈ edgesI a b, 0 ≤ y ∧ y ≤ 100000000 := fun y hy => by
    rcases (hm y).1 hy with (rfl | rfl) | ⟨c, hc, h⟩ | ⟨c, hc, h⟩
    · decide
    · decide
    · have := asc_bd ha hc; omega
    · have := asc_bd hb hc; omega
  have h0 : (0 : Int) ∈ edgesI a b := (hm 0).2 (.inl (.inl rfl))
  have h1 : (100000000 : Int) ∈ edgesI a b := (hm _).2 (.inl (.inr rfl))
  obtain ⟨i, hi⟩ := List.getElem?_of_mem h0
  obtain ⟨j, hj⟩ := List.getElem?_of_mem h1
  have hil := (List.getElem?_eq_some_iff.1 hi).1
  have hjl := (List.getElem?_eq_some_iff.1 hj).1
  have hi0 : i = 0 := by
    rcases Nat.eq_zero_or_pos i with h | h
    · exact h
    · have hz := List.getElem?_eq_getElem (l := edgesI a b) (i := 0) (by omega)
      have h2 := sorted_get hs hz hi h
      have h3 := (hbd _ (List.mem_of_getElem? hz)).1
      omega
  have hjl2 : j = (edgesI a b).length - 1 := by
    rcases Nat.lt_or_ge j ((edgesI a b).length - 1) with h | h
    · have hz := List.getElem?_eq_getElem (l := edgesI a b) (i := (edgesI a b).length - 1) (by omega)
      have h2 := sorted_get hs hj hz h
      have h3 := (hbd _ (List.mem_of_getElem? hz)).2
      omega
    · omega
  have hij : i ≠ j := fun h => by subst h; rw [hi] at hj; cases hj
  subst hi0; subst hjl2
  exact ⟨hs, hi, hj, by omega, fun c hc => ⟨(hm _).2 (.inr (by rcases hc with hc | hc; exact .inl ⟨c, hc, .inl rfl⟩; exact .inr ⟨c, hc, .inl rfl⟩)), (hm _).2 (.inr (by rcases hc with hc | hc; exact .inl ⟨c, hc, .inr rfl⟩; exact .inr ⟨c, hc, .inr rfl⟩))⟩⟩
/-- between two ends that follow each other nothing changes -/
theorem between {l : List B3} {E : List Int} (hl : Canon l) (hs : E.Pairwise (· < ·)) (hm : ∀ c ∈ l, c.f ∈ E ∧ c.t ∈ E) {i : Nat} {p q : Int} (hp : E[i]? = some p) (hq : E[i + 1]? = some q) : ∀ n, p ≤ n → n < q → hold l n = hold l p := by
  have noMem : ∀ n, p < n → n < q → n ∉ E := fun n h1 h2 hn => by
    obtain ⟨j, hj⟩ := List.getElem?_of_mem hn
    rcases Nat.lt_or_ge i j with h3 | h3
    · rcases Nat.lt_or_ge (i + 1) j with h4 | h4
      · have := sorted_get hs hq hj h4; omega
      · have : j = i + 1 := by omega
        subst this; rw [hq] at hj; cases hj; omega
    · rcases Nat.lt_or_ge j i with h4 | h4
      · have := sorted_get hs hj hp h4; omega
      · have : j = i := by omega
        subst this; rw [hp] at hj; cases hj; omega
  have key : ∀ (k : Nat), p + k < q → hold l (p + k) = hold l p := by
    intro k
    induction k with
    | zero => intro _; simp
    | succ k ih =>
      intro hk
      have h1 := ih (by omega)
      by_cases h2 : hold l (p + (k + 1 : Nat) - 1) = hold l (p + (k + 1 : Nat))
      · rw [← h2, ← h1]; congr 1; omega
      · obtain ⟨c, hc, h3⟩ := change_mem hl h2
        have := hm c hc
        rcases h3 with h3 | h3
        · exact absurd (h3 ▸ this.1) (noMem _ (by omega) hk)
        · exact absurd (h3 ▸ this.2) (noMem _ (by omega) hk)
  intro n h1 h2
  have := key (n - p).toNat (by omega)
  rwa [show p + ((n - p).toNat : Int) = n by omega] at this
/-- the state of a walk over the pieces of two maps -/
structure PInv (g : Int → Int → Int) (A B : Int → Int) (from_ : Int) (o a b : List B3) : Prop where
  lo : 0 ≤ from_
  hi : from_ ≤ 100000000
  up : Upto (fun m => g (A m) (B m)) from_ o
  sa : Some a
  sb : Some b
  ha : ∀ m, from_ ≤ m → hold a m = A m
  hb : ∀ m, from_ ≤ m → hold b m = B m
  len : o.length ≤ from_.toNat
theorem step_len (o : List B3) (f t k : Int) : (step o f t k).length ≤ o.length + 1 := by
  unfold step
  split
  · omega
  · split
    · rename_i y hy
      split
      · have : o ≠ [] := fun h => by subst h; simp at hy
        have := List.length_pos_iff.2 this
        simp
        try omega
      · simp
    · simp
theorem PInv.begin (g : Int → Int → Int) {a b : List B3} (ha : Canon a) (hb : Canon b) : PInv g (hold a) (hold b) 0 [] a b := ⟨by decide, by decide, Upto.nil _, ⟨_, _, ha⟩, ⟨_, _, hb⟩, fun _ _ => rfl, fun _ _ => rfl, by simp⟩
theorem PInv.next {g : Int → Int → Int} {A B : Int → Int} {p : Int} {o a b : List B3} (hg : ∀ x y, -1 ≤ x → x ≤ 7 → -1 ≤ y → y ≤ 7 → -1 ≤ g x y ∧ g x y ≤ 7) (h : PInv g A B p o a b) (hp : p < 100000000) :
    p < min (at_ a p).2.2 (at_ b p).2.2 ∧ PInv g A B (min (at_ a p).2.2 (at_ b p).2.2) (step o p (min (at_ a p).2.2 (at_ b p).2.2) (g (at_ a p).2.1 (at_ b p).2.1)) (at_ a p).1 (at_ b p).1 := by
  obtain ⟨a1, a2, a3, a4, a5, a6⟩ := at_spec h.sa p
  obtain ⟨b1, b2, b3, b4, b5, b6⟩ := at_spec h.sb p
  have ga := at_gt a hp
  have gb := at_gt b hp
  have h0 := h.lo
  obtain ⟨t, ht⟩ : ∃ t, t = min (at_ a p).2.2 (at_ b p).2.2 := ⟨_, rfl⟩
  rw [← ht]
  have hl := step_len o p t (g (at_ a p).2.1 (at_ b p).2.1)
  have hlen := h.len
  refine ⟨by omega, by omega, by omega, ?_, a1, b1, fun m hm => (a4 m (by omega)).trans (h.ha m (by omega)), fun m hm => (b4 m (by omega)).trans (h.hb m (by omega)), by omega⟩
  refine Upto.step h.up h0 (by omega) (by omega) (hg _ _ a5 a6 b5 b6) fun m h1 h2 => ?_
  rw [← h.ha m h1, ← h.hb m h1, a3 m h1 (by omega), b3 m h1 (by omega)]
theorem PInv.done {g : Int → Int → Int} {A B : Int → Int} {p : Int} {o a b : List B3} (h : PInv g A B p o a b) (hp : ¬ p ≤ 99999999) : IsMap (fun m => g (A m) (B m)) o ∧ mapOf (fun m => g (A m) (B m)) = o ∧ o.length ≤ 100000000 := by
  have h1 := h.hi
  have : p = 100000000 := by omega
  subst this
  exact ⟨h.up.isMap, mapOf_eq h.up.isMap, by have := h.len; omega⟩
end Go.Dial.Blk
