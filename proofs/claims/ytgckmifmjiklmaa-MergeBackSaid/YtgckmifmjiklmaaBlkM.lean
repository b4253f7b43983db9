/-
  Plain mathematics of maps from ranges of numbers to carriers: canonical lists of blocks, who holds a number, uniqueness, and folds over pieces.
-/
import Derived.Lib.Hide
set_option linter.unusedVariables false
set_option linter.unusedSimpArgs false
namespace Go.Dial.Blk

structure B3 where
  f : Int
  t : Int
  c : Int
deriving DecidableEq

/-- the list's ranges ascend behind e; a range at the very end of the one before has another carrier -/
def Asc : Int → Int → List B3 → Prop
  | _, _, [] => True
  | e, k, b :: l => 0 ≤ b.f ∧ b.f < b.t ∧ b.t ≤ 100000000 ∧ 0 ≤ b.c ∧ b.c ≤ 7 ∧ e ≤ b.f ∧ (b.f = e → b.c ≠ k) ∧ Asc b.t b.c l
def Canon (l : List B3) : Prop := Asc 0 (-1) l

def hold : List B3 → Int → Int
  | [], _ => -1
  | b :: l, n => if b.f ≤ n ∧ n < b.t then b.c else hold l n

theorem hold_nil (n : Int) : hold [] n = -1 := rfl
theorem hold_in {b : B3} {n : Int} (l : List B3) (h : b.f ≤ n ∧ n < b.t) : hold (b :: l) n = b.c := by simp [hold, h]
theorem hold_out {b : B3} {n : Int} (l : List B3) (h : ¬ (b.f ≤ n ∧ n < b.t)) : hold (b :: l) n = hold l n := by rw [hold, if_neg h]
theorem hold_lt {l : List B3} {e k n : Int} (h : Asc e k l) (hn : n < e) : hold l n = -1 := by
  induction l generalizing e k with
  | nil => rfl
  | cons b l ih => rw [hold_out l (by obtain ⟨_, _, _, _, _, h6, _⟩ := h; omega)]; exact ih h.2.2.2.2.2.2.2 (by obtain ⟨_, _, _, _, _, h6, _⟩ := h; omega)
theorem hold_at {l : List B3} {e k : Int} (h : Asc e k l) (hk : 0 ≤ k) : hold l e ≠ k := by
  cases l with
  | nil => simp [hold]; omega
  | cons b l =>
    obtain ⟨h1, h2, h3, h4, h5, h6, h7, h8⟩ := h
    by_cases hb : b.f = e
    · rw [hold_in l (by omega)]; exact h7 hb
    · rw [hold_out l (by omega), hold_lt h8 (by omega)]; omega
theorem hold_range {l : List B3} {e k : Int} (h : Asc e k l) (n : Int) : -1 ≤ hold l n ∧ hold l n ≤ 7 := by
  induction l generalizing e k with
  | nil => simp [hold]
  | cons b l ih =>
    obtain ⟨h1, h2, h3, h4, h5, h6, h7, h8⟩ := h
    unfold hold; split
    · omega
    · exact ih h8
theorem hold_bd {l : List B3} {e k : Int} (h : Asc e k l) {n : Int} (hn : 0 ≤ hold l n) : e ≤ n ∧ 0 ≤ n ∧ n < 100000000 := by
  induction l generalizing e k with
  | nil => simp [hold] at hn
  | cons b l ih =>
    obtain ⟨h1, h2, h3, h4, h5, h6, h7, h8⟩ := h
    unfold hold at hn; split at hn
    · omega
    · have := ih h8 hn; omega
theorem Asc.uniq {a b : List B3} {e k : Int} (ha : Asc e k a) (hb : Asc e k b) (h : ∀ n, e ≤ n → hold a n = hold b n) : a = b := by
  induction a generalizing b e k with
  | nil =>
    cases b with
    | nil => rfl
    | cons y b =>
      obtain ⟨h1, h2, h3, h4, h5, h6, h7, h8⟩ := hb
      have := h y.f h6
      rw [hold_in b (by omega)] at this
      simp [hold] at this; omega
  | cons x a ih =>
    obtain ⟨p1, p2, p3, p4, p5, p6, p7, p8⟩ := ha
    cases b with
    | nil =>
      have := h x.f p6
      rw [hold_in a (by omega)] at this
      simp [hold] at this; omega
    | cons y b =>
      obtain ⟨q1, q2, q3, q4, q5, q6, q7, q8⟩ := hb
      have hf : x.f = y.f := by
        rcases Int.lt_trichotomy x.f y.f with hl | hl | hl
        · have := h x.f p6
          rw [hold_in a (by omega), hold_out b (by omega), hold_lt q8 (by omega)] at this; omega
        · exact hl
        · have := h y.f q6
          rw [hold_in b (by omega), hold_out a (by omega), hold_lt p8 (by omega)] at this; omega
      have hc : x.c = y.c := by
        have := h x.f p6
        rwa [hold_in a (by omega), hold_in b (by omega)] at this
      have ht : x.t = y.t := by
        rcases Int.lt_trichotomy x.t y.t with hl | hl | hl
        · have := h x.t (by omega)
          rw [hold_out a (by omega), hold_in b (by omega), ← hc] at this
          exact absurd this (hold_at p8 p4)
        · exact hl
        · have := h y.t (by omega)
          rw [hold_out b (by omega), hold_in a (by omega), hc] at this
          exact absurd this.symm (hold_at q8 q4)
      obtain ⟨xf, xt, xc⟩ := x
      obtain ⟨yf, yt, yc⟩ := y
      simp only at hf hc ht
      subst hf hc ht
      congr 1
      exact ih p8 q8 (fun n hn => by
        have := h n (by simp only at *; omega)
        rwa [hold_out a (by simp only at *; omega), hold_out b (by simp only at *; omega)] at this)
theorem Canon.uniq {a b : List B3} (ha : Canon a) (hb : Canon b) (h : ∀ n, 0 ≤ n → n < 100000000 → hold a n = hold b n) : a = b :=
  Asc.uniq ha hb fun n hn => by
    by_cases h1 : n < 100000000
    · exact h n hn h1
    · have e1 : ¬ 0 ≤ hold a n := fun hh => by have := hold_bd ha hh; omega
      have e2 : ¬ 0 ≤ hold b n := fun hh => by have := hold_bd hb hh; omega
      have r1 := hold_range ha n
      have r2 := hold_range hb n
      omega

/-- where a list ends, and with whom -/
def fin : Int → Int → List B3 → Int × Int
  | e, k, [] => (e, k)
  | _, _, b :: l => fin b.t b.c l
theorem fin_snoc (l : List B3) (e k : Int) (y : B3) : fin e k (l ++ [y]) = (y.t, y.c) := by
  induction l generalizing e k with
  | nil => rfl
  | cons b l ih => exact ih _ _
theorem Asc.snoc {l : List B3} {e k : Int} {y : B3} : Asc e k (l ++ [y]) ↔ Asc e k l ∧ 0 ≤ y.f ∧ y.f < y.t ∧ y.t ≤ 100000000 ∧ 0 ≤ y.c ∧ y.c ≤ 7 ∧ (fin e k l).1 ≤ y.f ∧ (y.f = (fin e k l).1 → y.c ≠ (fin e k l).2) := by
  induction l generalizing e k with
  | nil => simp [Asc, fin]
  | cons b l ih => simp only [List.cons_append, Asc, ih, fin]; constructor <;> intro h <;> simp_all
theorem hold_snoc (l : List B3) (y : B3) (n : Int) (h : ¬ (y.f ≤ n ∧ n < y.t) ∨ ∀ b ∈ l, ¬ (b.f ≤ n ∧ n < b.t)) : hold (l ++ [y]) n = if y.f ≤ n ∧ n < y.t then y.c else hold l n := by
  induction l with
  | nil => simp [hold]
  | cons b l ih =>
    simp only [List.cons_append, hold]
    by_cases hb : b.f ≤ n ∧ n < b.t
    · rw [if_pos hb, if_pos hb]
      rcases h with h | h
      · rw [if_neg h]
      · exact absurd hb (h b (by simp))
    · rw [if_neg hb, if_neg hb]
      exact ih (h.imp_right fun h b hb => h b (List.mem_cons_of_mem _ hb))
theorem Asc.fin_le {l : List B3} {e k : Int} (h : Asc e k l) : e ≤ (fin e k l).1 := by
  induction l generalizing e k with
  | nil => exact Int.le_refl _
  | cons b l ih =>
    obtain ⟨h1, h2, h3, h4, h5, h6, h7, h8⟩ := h
    have := ih h8
    simp only [fin]; omega
theorem Asc.le_fin {l : List B3} {e k : Int} (h : Asc e k l) : ∀ b ∈ l, b.t ≤ (fin e k l).1 := by
  induction l generalizing e k with
  | nil => simp
  | cons b l ih =>
    obtain ⟨h1, h2, h3, h4, h5, h6, h7, h8⟩ := h
    intro c hc
    rcases List.mem_cons.1 hc with rfl | hc
    · exact h8.fin_le
    · exact ih h8 c hc

/-- one more range behind a list: grown at its end, or laid behind it -/
def step (out : List B3) (f t k : Int) : List B3 :=
  if k = -1 then out else
  match out.getLast? with
  | some y => if y.t = f ∧ y.c = k then out.dropLast ++ [⟨y.f, t, k⟩] else out ++ [⟨f, t, k⟩]
  | none => [⟨f, t, k⟩]
theorem step_none (out : List B3) (f t : Int) : step out f t (-1) = out := by simp [step]
theorem step_snoc (l : List B3) (y : B3) (f t k : Int) (hk : k ≠ -1) : step (l ++ [y]) f t k = if y.t = f ∧ y.c = k then l ++ [⟨y.f, t, k⟩] else (l ++ [y]) ++ [⟨f, t, k⟩] := by simp [step, hk]
theorem step_nil (f t k : Int) (hk : k ≠ -1) : step [] f t k = [⟨f, t, k⟩] := by simp [step, hk]

/-- what a fold of steps keeps: canonical, ends at p at the latest, and is held as g says up to p -/
def Upto (g : Int → Int) (p : Int) (out : List B3) : Prop := Canon out ∧ (fin 0 (-1) out).1 ≤ p ∧ ∀ n, hold out n = if 0 ≤ n ∧ n < p then g n else -1
theorem Upto.nil (g : Int → Int) : Upto g 0 [] := ⟨trivial, by simp [fin], fun n => by rw [if_neg (by omega)]; rfl⟩
theorem Upto.step {g : Int → Int} {f t k : Int} {out : List B3} (h : Upto g f out) (h0 : 0 ≤ f) (h1 : f < t) (h2 : t ≤ 100000000) (hk : -1 ≤ k ∧ k ≤ 7) (hg : ∀ n, f ≤ n → n < t → g n = k) : Upto g t (step out f t k) := by
  obtain ⟨hc, hf, hh⟩ := h
  by_cases hk1 : k = -1
  · subst hk1
    rw [step_none]
    refine ⟨hc, by omega, fun n => ?_⟩
    rw [hh n]
    by_cases hn : 0 ≤ n ∧ n < f
    · rw [if_pos hn, if_pos (by omega)]
    · rw [if_neg hn]
      split
      · exact (hg n (by omega) (by omega)).symm
      · rfl
  rcases List.eq_nil_or_concat out with rfl | ⟨l, y, rfl⟩
  · rw [step_nil _ _ _ hk1]
    refine ⟨⟨h0, h1, h2, by show 0 ≤ k; omega, hk.2, h0, fun _ => hk1, trivial⟩, by simp [fin], fun n => ?_⟩
    have := hh n
    simp only [hold] at this ⊢
    by_cases hn : f ≤ n ∧ n < t
    · rw [if_pos hn, if_pos (by omega), hg n hn.1 hn.2]
    · rw [if_neg hn, this]
      by_cases h3 : 0 ≤ n ∧ n < f
      · rw [if_pos h3, if_pos (by omega)]
      · rw [if_neg h3, if_neg (by omega)]
  · rw [List.concat_eq_append] at *
    rw [step_snoc _ _ _ _ _ hk1]
    have hc' := hc
    rw [Canon, Asc.snoc] at hc
    obtain ⟨c0, c1, c2, c3, c4, c5, c6, c7⟩ := hc
    rw [fin_snoc] at hf
    simp only at hf
    have hle := c0.le_fin
    split
    · rename_i hy
      obtain ⟨rfl, rfl⟩ := hy
      refine ⟨Asc.snoc.2 ⟨c0, c1, by simp only; omega, h2, c4, c5, c6, c7⟩, by rw [fin_snoc]; exact Int.le_refl _, fun n => ?_⟩
      rw [hold_snoc _ _ _ (by
        by_cases hn : y.f ≤ n ∧ n < t
        · exact .inr fun b hb => by have := hle b hb; omega
        · exact .inl hn)]
      have := hh n
      rw [hold_snoc _ _ _ (by
        by_cases hn : y.f ≤ n ∧ n < y.t
        · exact .inr fun b hb => by have := hle b hb; omega
        · exact .inl hn)] at this
      simp only
      by_cases hn : y.f ≤ n ∧ n < t
      · rw [if_pos hn, if_pos (by omega)]
        by_cases hn2 : n < y.t
        · rw [if_pos (by omega), if_pos (by omega)] at this; exact this
        · exact (hg n (by omega) hn.2).symm
      · rw [if_neg hn]
        rw [if_neg (by omega)] at this
        rw [this]
        by_cases h3 : 0 ≤ n ∧ n < y.t
        · rw [if_pos h3, if_pos (by omega)]
        · rw [if_neg h3, if_neg (by omega)]
    · rename_i hy
      refine ⟨Asc.snoc.2 ⟨hc', h0, h1, h2, by simp only; omega, hk.2, by rw [fin_snoc]; exact hf, by rw [fin_snoc]; intro e1 e2; exact hy ⟨e1.symm, e2.symm⟩⟩, by rw [fin_snoc]; exact Int.le_refl _, fun n => ?_⟩
      have hle2 : ∀ b ∈ l ++ [y], b.t ≤ f := by
        intro b hb
        have := Asc.le_fin hc' b hb
        rw [fin_snoc] at this; simp only at this; omega
      rw [hold_snoc _ _ _ (by
        by_cases hn : f ≤ n ∧ n < t
        · exact .inr fun b hb => by have := hle2 b hb; omega
        · exact .inl hn)]
      simp only
      by_cases hn : f ≤ n ∧ n < t
      · rw [if_pos hn, if_pos (by omega), hg n hn.1 hn.2]
      · rw [if_neg hn, hh n]
        by_cases h3 : 0 ≤ n ∧ n < f
        · rw [if_pos h3, if_pos (by omega)]
        · rw [if_neg h3, if_neg (by omega)]

/-- who holds the number n, and up to where, in what is left of a map -/
def at_ : List B3 → Int → List B3 × Int × Int
  | [], _ => ([], -1, 100000000)
  | b :: l, n => if b.t ≤ n then at_ l n else if n < b.f then (b :: l, -1, b.f) else (b :: l, b.c, b.t)
theorem at_gt (l : List B3) {n : Int} (h : n < 100000000) : n < (at_ l n).2.2 := by
  induction l with
  | nil => exact h
  | cons b l ih =>
    unfold at_
    split
    · exact ih
    · split <;> simp only <;> omega

/-- the longest ranges from n on on which two maps are constant, with those who hold them -/
def pieces (a b : List B3) (n : Int) : List (Int × Int × Int × Int) :=
  if _h : n < 100000000 then
    (n, min (at_ a n).2.2 (at_ b n).2.2, (at_ a n).2.1, (at_ b n).2.1) :: pieces (at_ a n).1 (at_ b n).1 (min (at_ a n).2.2 (at_ b n).2.2)
  else []
termination_by (100000000 - n).toNat
decreasing_by
  have h1 := at_gt a _h
  have h2 := at_gt b _h
  omega

theorem at_suffix (l : List B3) (n : Int) : ∃ pre, l = pre ++ (at_ l n).1 := by
  induction l with
  | nil => exact ⟨[], rfl⟩
  | cons b l ih =>
    unfold at_; split
    · obtain ⟨pre, h⟩ := ih; exact ⟨b :: pre, by rw [List.cons_append, ← h]⟩
    · split <;> exact ⟨[], rfl⟩
/-- ascending, wherever it begins -/
def Some (l : List B3) : Prop := ∃ e k, Asc e k l
theorem Asc.some {e k : Int} {l : List B3} (h : Asc e k l) : Some l := ⟨e, k, h⟩
theorem Some.tail {b : B3} {l : List B3} (h : Some (b :: l)) : Some l := by obtain ⟨e, k, h⟩ := h; exact ⟨_, _, h.2.2.2.2.2.2.2⟩
theorem at_spec {l : List B3} (h : Some l) (n : Int) : Some (at_ l n).1 ∧ (at_ l n).2.2 ≤ 100000000 ∧ (∀ m, n ≤ m → m < (at_ l n).2.2 → hold l m = (at_ l n).2.1) ∧ (∀ m, n ≤ m → hold (at_ l n).1 m = hold l m) ∧ -1 ≤ (at_ l n).2.1 ∧ (at_ l n).2.1 ≤ 7 := by
  induction l with
  | nil => exact ⟨h, Int.le_refl _, fun _ _ _ => rfl, fun _ _ => rfl, by simp [at_], by simp [at_]⟩
  | cons b l ih =>
    have h0 := h
    obtain ⟨e, k, h1, h2, h3, h4, h5, h6, h7, h8⟩ := h0
    by_cases hb : b.t ≤ n
    · rw [show at_ (b :: l) n = at_ l n by rw [at_, if_pos hb]]
      obtain ⟨i1, i2, i3, i4, i5⟩ := ih h.tail
      refine ⟨i1, i2, fun m hm hm2 => ?_, fun m hm => ?_, i5⟩
      · rw [hold_out l (by omega)]; exact i3 m hm hm2
      · rw [hold_out l (by omega)]; exact i4 m hm
    · by_cases hf : n < b.f
      · rw [show at_ (b :: l) n = (b :: l, -1, b.f) by rw [at_, if_neg hb, if_pos hf]]
        refine ⟨h, by simp only; omega, fun m hm hm2 => ?_, fun _ _ => rfl, by simp, by simp⟩
        simp only at hm2
        rw [hold_out l (by omega)]; exact hold_lt h8 (by omega)
      · rw [show at_ (b :: l) n = (b :: l, b.c, b.t) by rw [at_, if_neg hb, if_neg hf]]
        refine ⟨h, h3, fun m hm hm2 => ?_, fun _ _ => rfl, by simp only; omega, h5⟩
        simp only at hm2
        exact hold_in l (by omega)

/-- a fold of steps over pieces gives the canonical list that is held as g says of those who hold in both -/
theorem fold_pieces (g : Int → Int → Int) (hgr : ∀ x y, -1 ≤ x → x ≤ 7 → -1 ≤ y → y ≤ 7 → -1 ≤ g x y ∧ g x y ≤ 7) {a b : List B3} (A B : Int → Int) {n : Int} (ha : Some a) (hb : Some b) (hn : 0 ≤ n) (hn2 : n ≤ 100000000)
    (hA : ∀ m, n ≤ m → hold a m = A m) (hB : ∀ m, n ≤ m → hold b m = B m) {out : List B3} (ho : Upto (fun m => g (A m) (B m)) n out) :
    Upto (fun m => g (A m) (B m)) 100000000 ((pieces a b n).foldl (fun o p => step o p.1 p.2.1 (g p.2.2.1 p.2.2.2)) out) := by
  obtain ⟨d, hd⟩ : ∃ d, d = (100000000 - n).toNat := ⟨_, rfl⟩
  induction d using Nat.strongRecOn generalizing a b n out with
  | _ d ih =>
    by_cases h : n < 100000000
    · rw [pieces, dif_pos h, List.foldl_cons]
      obtain ⟨a1, a2, a3, a4, a5, a6⟩ := at_spec ha n
      obtain ⟨b1, b2, b3, b4, b5, b6⟩ := at_spec hb n
      have hga := at_gt a h
      have hgb := at_gt b h
      obtain ⟨t, ht⟩ : ∃ t, t = min (at_ a n).2.2 (at_ b n).2.2 := ⟨_, rfl⟩
      rw [← ht]
      refine ih ((100000000 - t).toNat) (by omega) a1 b1 (by omega) (by omega) (fun m hm => (a4 m (by omega)).trans (hA m (by omega))) (fun m hm => (b4 m (by omega)).trans (hB m (by omega))) ?_ rfl
      refine Upto.step ho hn (by omega) (by omega) (hgr _ _ a5 a6 b5 b6) fun m hm hm2 => ?_
      rw [← hA m hm, ← hB m hm, a3 m hm (by omega), b3 m hm (by omega)]
    · rw [pieces, dif_neg h]
      have : n = 100000000 := by omega
      subst this; exact ho

/-- every end of a range is in K -/
def Cut (K : List Int) (l : List B3) : Prop := ∀ b ∈ l, b.f ∈ K ∧ b.t ∈ K
theorem Cut.nil (K : List Int) : Cut K [] := fun _ h => by simp at h
theorem Cut.mono {K K' : List Int} {l : List B3} (h : Cut K l) (hK : ∀ x ∈ K, x ∈ K') : Cut K' l := fun b hb => ⟨hK _ (h b hb).1, hK _ (h b hb).2⟩
/-- where the holder changes, there is an end of a range -/
theorem change_mem {l : List B3} {e k : Int} (h : Asc e k l) {n : Int} (hn : hold l (n - 1) ≠ hold l n) : ∃ b ∈ l, b.f = n ∨ b.t = n := by
  induction l generalizing e k with
  | nil => exact absurd rfl hn
  | cons b l ih =>
    obtain ⟨h1, h2, h3, h4, h5, h6, h7, h8⟩ := h
    by_cases hb : b.f = n ∨ b.t = n
    · exact ⟨b, by simp, hb⟩
    · by_cases hi : b.f ≤ n ∧ n < b.t
      · rw [hold_in l hi, hold_in l (by omega)] at hn; exact absurd rfl hn
      · rw [hold_out l hi, hold_out l (by omega)] at hn
        obtain ⟨c, hc, hh⟩ := ih h8 hn
        exact ⟨c, by simp [hc], hh⟩
/-- at each end of a range of a canonical list the holder changes -/
theorem mem_change {l : List B3} {e k : Int} (h : Asc e k l) {b : B3} (hb : b ∈ l) : (b.f ≠ e → hold l (b.f - 1) ≠ hold l b.f) ∧ hold l (b.t - 1) ≠ hold l b.t := by
  induction l generalizing e k with
  | nil => simp at hb
  | cons c l ih =>
    obtain ⟨h1, h2, h3, h4, h5, h6, h7, h8⟩ := h
    rcases List.mem_cons.1 hb with rfl | hb
    · constructor
      · intro _
        rw [hold_out (n := b.f - 1) l (by omega), hold_in (n := b.f) l (by omega), hold_lt h8 (by omega)]; omega
      · rw [hold_in (n := b.t - 1) l (by omega), hold_out (n := b.t) l (by omega)]
        exact (hold_at h8 h4).symm
    · have hmem : c.t ≤ b.f ∧ b.f < b.t := by
        clear ih
        have : ∀ (l : List B3) e k, Asc e k l → b ∈ l → e ≤ b.f ∧ b.f < b.t := by
          intro l
          induction l with
          | nil => intro _ _ _ hm; simp at hm
          | cons x l ih2 =>
            intro e k hx hm
            obtain ⟨x1, x2, x3, x4, x5, x6, x7, x8⟩ := hx
            rcases List.mem_cons.1 hm with rfl | hm
            · exact ⟨x6, x2⟩
            · have := ih2 _ _ x8 hm; omega
        exact this l _ _ h8 hb
      have i := ih h8 hb
      constructor
      · intro _
        by_cases he : b.f = c.t
        · rw [hold_in (n := b.f - 1) l (by omega), hold_out (n := b.f) l (by omega), he]
          exact (hold_at h8 h4).symm
        · rw [hold_out l (by omega), hold_out l (by omega)]; exact i.1 he
      · by_cases he : b.t - 1 < c.t
        · omega
        · rw [hold_out l (by omega), hold_out l (by omega)]; exact i.2
theorem Canon.change {l : List B3} (h : Canon l) {b : B3} (hb : b ∈ l) : hold l (b.f - 1) ≠ hold l b.f ∧ hold l (b.t - 1) ≠ hold l b.t := by
  have h' : Asc (-5) (-1) l := by
    cases l with
    | nil => trivial
    | cons c l => obtain ⟨h1, h2, h3, h4, h5, h6, h7, h8⟩ := h; exact ⟨h1, h2, h3, h4, h5, by omega, fun _ => by omega, h8⟩
  have hf : 0 ≤ b.f := by
    have : ∀ (l : List B3) e k, Asc e k l → b ∈ l → 0 ≤ b.f := by
      intro l
      induction l with
      | nil => intro _ _ _ hm; simp at hm
      | cons x l ih2 =>
        intro e k hx hm
        obtain ⟨x1, x2, x3, x4, x5, x6, x7, x8⟩ := hx
        rcases List.mem_cons.1 hm with rfl | hm
        · exact x1
        · exact ih2 _ _ x8 hm
    exact this l _ _ h hb
  exact ⟨(mem_change h' hb).1 (by omega), (mem_change h' hb).2⟩
/-- a canonical list that is held as g says of two others has no ends but theirs -/
theorem cut_of {l a b : List B3} {K : List Int} {g : Int → Int → Int} (hl : Canon l) (ha : Canon a) (hb : Canon b) (hKa : Cut K a) (hKb : Cut K b) (hg : ∀ n, hold l n = g (hold a n) (hold b n)) : Cut K l := by
  have key : ∀ n, hold l (n - 1) ≠ hold l n → n ∈ K := by
    intro n hn
    rw [hg, hg] at hn
    by_cases h1 : hold a (n - 1) = hold a n
    · by_cases h2 : hold b (n - 1) = hold b n
      · rw [h1, h2] at hn; exact absurd rfl hn
      · obtain ⟨c, hc, rfl | rfl⟩ := change_mem hb h2
        · exact (hKb c hc).1
        · exact (hKb c hc).2
    · obtain ⟨c, hc, rfl | rfl⟩ := change_mem ha h1
      · exact (hKa c hc).1
      · exact (hKa c hc).2
  exact fun c hc => ⟨key _ (hl.change hc).1, key _ (hl.change hc).2⟩
theorem asc_lo {l : List B3} {e k : Int} (h : Asc e k l) {b : B3} (hb : b ∈ l) : e ≤ b.f ∧ b.f < b.t := by
  induction l generalizing e k with
  | nil => simp at hb
  | cons x l ih =>
    obtain ⟨x1, x2, x3, x4, x5, x6, x7, x8⟩ := h
    rcases List.mem_cons.1 hb with rfl | hb
    · exact ⟨x6, x2⟩
    · have := ih x8 hb; omega
theorem asc_len {l : List B3} {e k : Int} {K : List Int} (h : Asc e k l) (hK : Cut K l) (hl : l ≠ []) : l.length + 1 ≤ K.length := by
  induction l generalizing e k K with
  | nil => exact absurd rfl hl
  | cons b l ih =>
    obtain ⟨h1, h2, h3, h4, h5, h6, h7, h8⟩ := h
    have hb := hK b (by simp)
    have hlt : (K.filter (fun x => decide (b.f < x))).length < K.length := List.length_filter_lt_length_iff_exists.2 ⟨b.f, hb.1, by simp⟩
    by_cases hl2 : l = []
    · subst hl2
      have : b.t ∈ K.filter (fun x => decide (b.f < x)) := by simp [hb.2, h2]
      have := List.length_pos_of_mem this
      simp; omega
    · have := ih (K := K.filter (fun x => decide (b.f < x))) h8 (fun c hc => by
        have h9 := asc_lo h8 hc
        have := hK c (by simp [hc])
        simp [this]; omega) hl2
      simp; omega
theorem canon_len {l : List B3} {K : List Int} (h : Canon l) (hK : Cut K l) : l.length + 1 ≤ K.length ∨ l = [] := by
  by_cases hl : l = []
  · exact .inr hl
  · exact .inl (asc_len h hK hl)

end Go.Dial.Blk
