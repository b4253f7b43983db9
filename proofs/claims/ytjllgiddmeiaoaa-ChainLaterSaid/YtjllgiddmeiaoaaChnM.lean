/-
  Plain mathematics of chains: ports, validity, happenings, turns.
-/
import Derived.Test.YtjllgiddmeiaoaaClmM
import Derived.Test.YtjllgiddmeiaoaaLifM
set_option linter.unusedVariables false
set_option linter.unusedSimpArgs false
namespace Go.Dial.Chn
open Go.Dial.Clm Go.Dial.Lif
structure Pt where
  c : Cl
  es : List Ce
structure Ch where
  n : Int
  f : Int
  r : Rl
  life : List Ev
  ps : List Pt
def PtsV (n : Int) (r : Rl) : Int → List Pt → Prop
  | _, [] => True
  | last, p :: ps => (p.c.n = n ∧ ClmV r p.c p.es ∧ last ≤ p.c.a) ∧ PtsV n r p.c.a ps
instance PtsV.dec (n : Int) (r : Rl) : (last : Int) → (ps : List Pt) → Decidable (PtsV n r last ps)
  | _, [] => .isTrue trivial
  | last, p :: ps => by
    have := PtsV.dec n r p.c.a ps
    unfold PtsV
    infer_instance
def ChV (c : Ch) : Prop := Life c.life ∧ 0 ≤ c.n ∧ c.n ≤ 99999999 ∧ 0 ≤ c.f ∧ c.f ≤ 7 ∧ c.ps.length ≤ 8 ∧ PtsV c.n c.r 0 c.ps
instance (c : Ch) : Decidable (ChV c) := by unfold ChV; infer_instance
end Go.Dial.Chn
namespace Go.Dial.Chn
open Go.Dial.Clm Go.Dial.Lif
/-- a happening: when, of which port, whether a reversal -/
structure Hp where
  a : Int
  p : Int
  b : Bool
deriving DecidableEq
def hpOf (i : Nat) (x : Cs) : Option Hp := if x.s = 4 ∨ x.s = 8 then some ⟨x.f, i, decide (x.s = 8)⟩ else none
/-- the happenings of the ports from an index on -/
def hpsFrom (r : Rl) : Nat → List Pt → List Hp
  | _, [] => []
  | i, p :: ps => (timeline r p.c p.es).filterMap (hpOf i) ++ hpsFrom r (i + 1) ps
def ltH (x y : Hp) : Prop := x.a < y.a ∨ (x.a = y.a ∧ x.p < y.p)
instance (x y : Hp) : Decidable (ltH x y) := by unfold ltH; infer_instance
def ins (x : Hp) : List Hp → List Hp
  | [] => [x]
  | y :: l => if ltH x y then x :: y :: l else y :: ins x l
def isort (l : List Hp) : List Hp := l.foldl (fun acc x => ins x acc) []
def SortedH : List Hp → Prop
  | [] => True
  | x :: l => (∀ y ∈ l, ¬ ltH y x) ∧ SortedH l
theorem ltH_trans {x y z : Hp} (h1 : ¬ ltH y x) (h2 : ¬ ltH z y) : ¬ ltH z x := by unfold ltH at *; omega
theorem ltH_asymm {x y : Hp} (h : ltH x y) : ¬ ltH y x := by unfold ltH at *; omega
theorem mem_ins {x y : Hp} {l : List Hp} : y ∈ ins x l ↔ y = x ∨ y ∈ l := by
  induction l with
  | nil => simp [ins]
  | cons z l ih =>
    unfold ins
    split
    · simp
    · simp only [List.mem_cons, ih]
      constructor
      · rintro (h | h | h)
        · exact .inr (.inl h)
        · exact .inl h
        · exact .inr (.inr h)
      · rintro (h | h | h)
        · exact .inr (.inl h)
        · exact .inl h
        · exact .inr (.inr h)
theorem sorted_ins {x : Hp} {l : List Hp} (h : SortedH l) : SortedH (ins x l) := by
  induction l with
  | nil => exact ⟨fun y hy => (by cases hy), trivial⟩
  | cons z l ih =>
    unfold ins
    split
    · rename_i hx
      refine ⟨fun y hy => ?_, h⟩
      rcases List.mem_cons.1 hy with rfl | hy
      · exact ltH_asymm hx
      · exact ltH_trans (ltH_asymm hx) (h.1 y hy)
    · rename_i hx
      refine ⟨fun y hy => ?_, ih h.2⟩
      rcases mem_ins.1 hy with rfl | hy
      · exact hx
      · exact h.1 y hy
theorem sorted_isort (l : List Hp) : SortedH (isort l) := by
  have : ∀ (l acc : List Hp), SortedH acc → SortedH (l.foldl (fun acc x => ins x acc) acc) := by
    intro l
    induction l with
    | nil => intro acc h; exact h
    | cons x l ih => intro acc h; exact ih _ (sorted_ins h)
  exact this l [] trivial
theorem isort_snoc (l : List Hp) (x : Hp) : isort (l ++ [x]) = ins x (isort l) := by simp [isort]
theorem ins_len (x : Hp) (l : List Hp) : (ins x l).length = l.length + 1 := by
  induction l with
  | nil => rfl
  | cons y l ih => unfold ins; split <;> simp [ih]
theorem isort_len (l : List Hp) : (isort l).length = l.length := by
  have : ∀ (l acc : List Hp), (l.foldl (fun acc x => ins x acc) acc).length = acc.length + l.length := by
    intro l
    induction l with
    | nil => intro acc; simp
    | cons x l ih => intro acc; rw [List.foldl_cons, ih, ins_len, List.length_cons]; omega
  have := this l []
  simpa [isort] using this
/-- where an element is put -/
theorem ins_at {x : Hp} : ∀ {A B : List Hp}, SortedH (A ++ B) → (∀ y ∈ B, ltH x y) → (∀ y, A.getLast? = some y → ¬ ltH x y) → ins x (A ++ B) = A ++ x :: B
  | [], [], _, _, _ => rfl
  | [], z :: B, _, h, _ => by
    show ins x (z :: B) = _
    rw [ins, if_pos (h z (List.mem_cons_self ..))]; rfl
  | z :: A, B, hS, hB, hA => by
    have hz : ¬ ltH x z := by
      cases A with
      | nil => exact hA z rfl
      | cons w A =>
        obtain ⟨y, hy⟩ : ∃ y, (w :: A).getLast? = some y := ⟨_, List.getLast?_eq_some_getLast (by simp)⟩
        have h1 := hA y (by rw [List.getLast?_cons_cons]; exact hy)
        have h2 := hS.1 y (List.mem_append_left _ (List.mem_of_getLast? hy))
        exact ltH_trans h2 h1
    rw [List.cons_append, ins, if_neg hz, ins_at hS.2 hB (fun y hy => hA y (by
      cases A with
      | nil => cases hy
      | cons w A => rw [List.getLast?_cons_cons]; exact hy))]
    rfl
end Go.Dial.Chn
namespace Go.Dial.Chn
open Go.Dial.Clm Go.Dial.Lif
def hb (s : Int) : Nat := if 1 ≤ s ∧ s ≤ 3 then 2 else if s = 4 then 1 else 0
theorem bec_cases {b : Bool} {s : Int} {e : Ce} (h : ¬ bec b s e < 0) : (1 ≤ s ∧ s ≤ 3 ∧ (bec b s e = 2 ∨ bec b s e = 3 ∨ bec b s e = 6 ∨ bec b s e = 7)) ∨ (s = 4 ∧ bec b s e = 8) := by
  unfold bec at *
  grind
theorem tl_hps {r : Rl} {b : Bool} {i : Nat} : ∀ (m : Nat) (now : Cs) (es : List Ce), 5 * es.length + rk now.s ≤ m → ((tl r b now es).filterMap (hpOf i)).length ≤ hb now.s := by
  intro m
  have auto : ∀ (now : Cs) (k : Nat), act now → k ≤ hb (aft now.s) → (if aft now.s = 4 ∨ aft now.s = 8 then 1 else 0) + k ≤ hb now.s := by
    intro now k ha hk
    have : now.s = 1 ∨ now.s = 2 ∨ now.s = 3 ∨ now.s = 4 := by unfold act at ha; omega
    rcases this with h | h | h | h <;> rw [h] at hk ⊢ <;> simp [aft, hb] at hk ⊢ <;> omega
  have cons : ∀ (x : Cs) (l : List Cs), ((x :: l).filterMap (hpOf i)).length = (if x.s = 4 ∨ x.s = 8 then 1 else 0) + (l.filterMap (hpOf i)).length := by
    intro x l
    rw [List.filterMap_cons]
    unfold hpOf
    split
    · rename_i h; split at h
      · cases h
      · rename_i h2; rw [if_neg h2]; omega
    · rename_i h; split at h
      · rename_i h2; rw [if_pos h2]; simp; omega
      · cases h
  induction m with
  | zero =>
    intro now es hm
    have he : es = [] := by
      cases es with
      | nil => rfl
      | cons e es => simp at hm
    subst he
    by_cases ha : act now
    · have := rk_aft ha; omega
    · rw [tl_nil ha]; simp
  | succ m ih =>
    intro now es hm
    cases es with
    | nil =>
      by_cases ha : act now
      · rw [tl_end ha, cons]
        exact auto now _ ha (ih (st r (aft now.s) now.n) [] (by have := rk_aft ha; simp only [st]; omega))
      · rw [tl_nil ha]; simp
    | cons e es =>
      by_cases ha : act now ∧ now.n ≤ e.a
      · rw [tl_auto ha, cons]
        exact auto now _ ha.1 (ih (st r (aft now.s) now.n) (e :: es) (by have := rk_aft ha.1; simp only [st]; omega))
      · by_cases hbb : bec b now.s e < 0
        · rw [tl_void ha hbb]
          exact ih now es (by simp only [List.length_cons] at hm; omega)
        · rw [tl_ev ha hbb, cons]
          have := ih (st r (bec b now.s e) e.a) es (by simp only [List.length_cons] at hm; have := rk_le (st r (bec b now.s e) e.a).s; omega)
          have hs : (st r (bec b now.s e) e.a).s = bec b now.s e := rfl
          rw [hs] at this ⊢
          rcases bec_cases hbb with ⟨h1, h2, h3⟩ | ⟨h1, h2⟩
          · have h4 : hb now.s = 2 := by unfold hb; rw [if_pos ⟨h1, h2⟩]
            rw [h4]
            have q2 : hb 2 = 2 := rfl
            have q3 : hb 3 = 2 := rfl
            have q6 : hb 6 = 0 := rfl
            have q7 : hb 7 = 0 := rfl
            rcases h3 with h | h | h | h <;> rw [h] at this ⊢ <;> (try rw [q2] at this) <;> (try rw [q3] at this) <;> (try rw [q6] at this) <;> (try rw [q7] at this) <;> split <;> omega
          · rw [h2] at this ⊢
            rw [h1]
            have q8 : hb 8 = 0 := rfl
            have q4 : hb 4 = 1 := rfl
            rw [q8] at this
            rw [q4]
            split <;> omega
theorem timeline_hps {r : Rl} {c : Cl} {es : List Ce} {i : Nat} : ((timeline r c es).filterMap (hpOf i)).length ≤ 2 := by
  have := tl_hps (r := r) (b := c.b) (i := i) _ (x0 r c) es (Nat.le_refl _)
  unfold timeline
  rw [List.filterMap_cons]
  have h0 : hpOf i (x0 r c) = none := by unfold hpOf x0 st; simp
  rw [h0]
  have h1 : hb (x0 r c).s = 2 := rfl
  rw [h1] at this
  exact this
theorem hpsFrom_len (r : Rl) : ∀ (ps : List Pt) (i : Nat), (hpsFrom r i ps).length ≤ 2 * ps.length
  | [], i => by simp [hpsFrom]
  | p :: ps, i => by
    have h1 := timeline_hps (r := r) (c := p.c) (es := p.es) (i := i)
    have h2 := hpsFrom_len r ps (i + 1)
    simp only [hpsFrom, List.length_append, List.length_cons]
    omega
/-- the happenings of a chain, in order -/
def hps (c : Ch) : List Hp := isort (hpsFrom c.r 0 c.ps)
end Go.Dial.Chn
