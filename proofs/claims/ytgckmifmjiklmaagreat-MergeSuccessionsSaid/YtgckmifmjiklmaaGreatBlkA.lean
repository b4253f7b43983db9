/-
  Joined: BlkM BlkN BlkP.
-/
import Derived.Lib.Hide
set_option linter.unusedVariables false
set_option linter.unusedSimpArgs false
namespace Go.Dial.Blk
structure B3 where
  f : Int
  t : Int
  c : Int
deriving DecidableEq
/-- the list's ranges ascend behind e; a range at the very end of the one before has another carrier -/
def Asc : Int → Int → List B3 → Prop
  | _, _, [] => True
  | e, k, b :: l => 0 ≤ b.f ∧ b.f < b.t ∧ b.t ≤ 100000000 ∧ 0 ≤ b.c ∧ b.c ≤ 7 ∧ e ≤ b.f ∧ (b.f = e → b.c ≠ k) ∧ Asc b.t b.c l
def Canon (l : List B3) : Prop := Asc 0 (-1) l
def hold : List B3 → Int → Int
  | [], _ => -1
  | b :: l, n => if b.f ≤ n ∧ n < b.t then b.c else hold l n
theorem hold_nil (n : Int) : hold [] n = -1 := rfl
theorem hold_in {b : B3} {n : Int} (l : List B3) (h : b.f ≤ n ∧ n < b.t) : hold (b :: l) n = b.c := by simp [hold, h]
theorem hold_out {b : B3} {n : Int} (l : List B3) (h : ¬ (b.f ≤ n ∧ n < b.t)) : hold (b :: l) n = hold l n := by rw [hold, if_neg h]
theorem hold_lt {l : List B3} {e k n : Int} (h : Asc e k l) (hn : n < e) : hold l n = -1 := by
  induction l generalizing e k with
  | nil => rfl
  | cons b l ih => rw [hold_out l (by obtain ⟨_, _, _, _, _, h6, _⟩ := h; omega)]; exact ih h.2.2.2.2.2.2.2 (by obtain ⟨_, _, _, _, _, h6, _⟩ := h; omega)
theorem hold_at {l : List B3} {e k : Int} (h : Asc e k l) (hk : 0 ≤ k) : hold l e ≠ k := by
  cases l with
  | nil => simp [hold]; omega
  | cons b l =>
    obtain ⟨h1, h2, h3, h4, h5, h6, h7, h8⟩ := h
    by_cases hb : b.f = e
    · rw [hold_in l (by omega)]; exact h7 hb
    · rw [hold_out l (by omega), hold_lt h8 (by omega)]; omega
theorem hold_range {l : List B3} {e k : Int} (h : Asc e k l) (n : Int) : -1 ≤ hold l n ∧ hold l n ≤ 7 := by
  induction l generalizing e k with
  | nil => simp [hold]
  | cons b l ih =>
    obtain ⟨h1, h2, h3, h4, h5, h6, h7, h8⟩ := h
    unfold hold; split
    · omega
    · exact ih h8
theorem hold_bd {l : List B3} {e k : Int} (h : Asc e k l) {n : Int} (hn : 0 ≤ hold l n) : e ≤ n ∧ 0 ≤ n ∧ n < 100000000 := by
  induction l generalizing e k with
  | nil => simp [hold] at hn
  | cons b l ih =>
    obtain ⟨h1, h2, h3, h4, h5, h6, h7, h8⟩ := h
    unfold hold at hn; split at hn
    · omega
    · have := ih h8 hn; omega
theorem Asc.uniq {a b : List B3} {e k : Int} (ha : Asc e k a) (hb : Asc e k b) (h : ∀ n, e ≤ n → hold a n = hold b n) : a = b := by
  induction a generalizing b e k with
  | nil =>
    cases b with
    | nil => rfl
    | cons y b =>
      obtain ⟨h1, h2, h3, h4, h5, h6, h7, h8⟩ := hb
      have := h y.f h6
      rw [hold_in b (by omega)] at this
      simp [hold] at this; omega
  | cons x a ih =>
    obtain ⟨p1, p2, p3, p4, p5, p6, p7, p8⟩ := ha
    cases b with
    | nil =>
      have := h x.f p6
      rw [hold_in a (by omega)] at this
      simp [hold] at this; omega
    | cons y b =>
      obtain ⟨q1, q2, q3, q4, q5, q6, q7, q8⟩ := hb
      have hf : x.f = y.f := by
        rcases Int.lt_trichotomy x.f y.f with hl | hl | hl
        · have := h x.f p6
          rw [hold_in a (by omega), hold_out b (by omega), hold_lt q8 (by omega)] at this; omega
        · exact hl
        · have := h y.f q6
          rw [hold_in b (by omega), hold_out a (by omega), hold_lt p8 (by omega)] at this; omega
      have hc : x.c = y.c := by
        have := h x.f p6
        rwa [hold_in a (by omega), hold_in b (by omega)] at this
      have ht : x.t = y.t := by
        rcases Int.lt_trichotomy x.t y.t with hl | hl | hl
        · have := h x.t (by omega)
          rw [hold_out a (by omega), hold_in b (by omega), ← hc] at this
          exact absurd this (hold_at p8 p4)
        · exact hl
        · have := h y.t (by omega)
          rw [hold_out b (by omega), hold_in a (by omega), hc] at this
          exact absurd this.symm (hold_at q8 q4)
      obtain ⟨xf, xt, xc⟩ := x
      obtain ⟨yf, yt, yc⟩ := y
      simp only at hf hc ht
      subst hf hc ht
      congr 1
      exact ih p8 q8 (fun n hn => by
        have := h n (by simp only at *; omega)
        rwa [hold_out a (by simp only at *; omega), hold_out b (by simp only at *; omega)] at this)
theorem Canon.uniq {a b : List B3} (ha : Canon a) (hb : Canon b) (h : ∀ n, 0 ≤ n → n < 100000000 → hold a n = hold b n) : a = b :=
  Asc.uniq ha hb fun n hn => by
    by_cases h1 : n < 100000000
    · exact h n hn h1
    · have e1 : ¬ 0 ≤ hold a n := fun hh => by have := hold_bd ha hh; omega
      have e2 : ¬ 0 ≤ hold b n := fun hh => by have := hold_bd hb hh; omega
      have r1 := hold_range ha n
      have r2 := hold_range hb n
      omega
/-- where a list ends, and with whom -/
def fin : Int → Int → List B3 → Int × Int
  | e, k, [] => (e, k)
  | _, _, b :: l => fin b.t b.c l
theorem fin_snoc (l : List B3) (e k : Int) (y : B3) : fin e k (l ++ [y]) = (y.t, y.c) := by
  induction l generalizing e k with
  | nil => rfl
  | cons b l ih => exact ih _ _
theorem Asc.snoc {l : List B3} {e k : Int} {y : B3} : Asc e k (l ++ [y]) ↔ Asc e k l ∧ 0 ≤ y.f ∧ y.f < y.t ∧ y.t ≤ 100000000 ∧ 0 ≤ y.c ∧ y.c ≤ 7 ∧ (fin e k l).1 ≤ y.f ∧ (y.f = (fin e k l).1 → y.c ≠ (fin e k l).2) := by
  induction l generalizing e k with
  | nil => simp [Asc, fin]
  | cons b l ih => simp only [List.cons_append, Asc, ih, fin]; constructor <;> intro h <;> simp_all
theorem hold_snoc (l : List B3) (y : B3) (n : Int) (h : ¬ (y.f ≤ n ∧ n < y.t) ∨ ∀ b ∈ l, ¬ (b.f ≤ n ∧ n < b.t)) : hold (l ++ [y]) n = if y.f ≤ n ∧ n < y.t then y.c else hold l n := by
  induction l with
  | nil => simp [hold]
  | cons b l ih =>
    simp only [List.cons_append, hold]
    by_cases hb : b.f ≤ n ∧ n < b.t
    · rw [if_pos hb, if_pos hb]
      rcases h with h | h
      · rw [if_neg h]
      · exact absurd hb (h b (by simp))
    · rw [if_neg hb, if_neg hb]
      exact ih (h.imp_right fun h b hb => h b (List.mem_cons_of_mem _ hb))
theorem Asc.fin_le {l : List B3} {e k : Int} (h : Asc e k l) : e ≤ (fin e k l).1 := by
  induction l generalizing e k with
  | nil => exact Int.le_refl _
  | cons b l ih =>
    obtain ⟨h1, h2, h3, h4, h5, h6, h7, h8⟩ := h
    have := ih h8
    simp only [fin]; omega
theorem Asc.le_fin {l : List B3} {e k : Int} (h : Asc e k l) : ∀ b ∈ l, b.t ≤ (fin e k l).1 := by
  induction l generalizing e k with
  | nil => simp
  | cons b l ih =>
    obtain ⟨h1, h2, h3, h4, h5, h6, h7, h8⟩ := h
    intro c hc
    rcases List.mem_cons.1 hc with rfl | hc
    · exact h8.fin_le
    · exact ih h8 c hc
/-- one more range behind a list: grown at its end, or laid behind it -/
def step (out : List B3) (f t k : Int) : List B3 :=
  if k = -1 then out else
  match out.getLast? with
  | some y => if y.t = f ∧ y.c = k then out.dropLast ++ [⟨y.f, t, k⟩] else out ++ [⟨f, t, k⟩]
  | none => [⟨f, t, k⟩]
theorem step_none (out : List B3) (f t : Int) : step out f t (-1) = out := by simp [step]
theorem step_snoc (l : List B3) (y : B3) (f t k : Int) (hk : k ≠ -1) : step (l ++ [y]) f t k = if y.t = f ∧ y.c = k then l ++ [⟨y.f, t, k⟩] else (l ++ [y]) ++ [⟨f, t, k⟩] := by simp [step, hk]
theorem step_nil (f t k : Int) (hk : k ≠ -1) : step [] f t k = [⟨f, t, k⟩] := by simp [step, hk]
/-- what a fold of steps keeps: canonical, ends at p at the latest, and is held as g says up to p -/
def Upto (g : Int → Int) (p : Int) (out : List B3) : Prop := Canon out ∧ (fin 0 (-1) out).1 ≤ p ∧ ∀ n, hold out n = if 0 ≤ n ∧ n < p then g n else -1
theorem Upto.nil (g : Int → Int) : Upto g 0 [] := ⟨trivial, by simp [fin], fun n => by rw [if_neg (by omega)]; rfl⟩
theorem Upto.step {g : Int → Int} {f t k : Int} {out : List B3} (h : Upto g f out) (h0 : 0 ≤ f) (h1 : f < t) (h2 : t ≤ 100000000) (hk : -1 ≤ k ∧ k ≤ 7) (hg : ∀ n, f ≤ n → n < t → g n = k) : Upto g t (step out f t k) := by
  obtain ⟨hc, hf, hh⟩ := h
  by_cases hk1 : k = -1
  · subst hk1
    rw [step_none]
    refine ⟨hc, by omega, fun n => ?_⟩
    rw [hh n]
    by_cases hn : 0 ≤ n ∧ n < f
    · rw [if_pos hn, if_pos (by omega)]
    · rw [if_neg hn]
      split
      · exact (hg n (by omega) (by omega)).symm
      · rfl
  rcases List.eq_nil_or_concat out with rfl | ⟨l, y, rfl⟩
  · rw [step_nil _ _ _ hk1]
    refine ⟨⟨h0, h1, h2, by show 0 ≤ k; omega, hk.2, h0, fun _ => hk1, trivial⟩, by simp [fin], fun n => ?_⟩
    have := hh n
    simp only [hold] at this ⊢
    by_cases hn : f ≤ n ∧ n < t
    · rw [if_pos hn, if_pos (by omega), hg n hn.1 hn.2]
    · rw [if_neg hn, this]
      by_cases h3 : 0 ≤ n ∧ n < f
      · rw [if_pos h3, if_pos (by omega)]
      · rw [if_neg h3, if_neg (by omega)]
  · rw [List.concat_eq_append] at *
    rw [step_snoc _ _ _ _ _ hk1]
    have hc' := hc
    rw [Canon, Asc.snoc] at hc
    obtain ⟨c0, c1, c2, c3, c4, c5, c6, c7⟩ := hc
    rw [fin_snoc] at hf
    simp only at hf
    have hle := c0.le_fin
    split
    · rename_i hy
      obtain ⟨rfl, rfl⟩ := hy
      refine ⟨Asc.snoc.2 ⟨c0, c1, by simp only; omega, h2, c4, c5, c6, c7⟩, by rw [fin_snoc]; exact Int.le_refl _, fun n => ?_⟩
      rw [hold_snoc _ _ _ (by
        by_cases hn : y.f ≤ n ∧ n < t
        · exact .inr fun b hb => by have := hle b hb; omega
        · exact .inl hn)]
      have := hh n
      rw [hold_snoc _ _ _ (by
        by_cases hn : y.f ≤ n ∧ n < y.t
        · exact .inr fun b hb => by have := hle b hb; omega
        · exact .inl hn)] at this
      simp only
      by_cases hn : y.f ≤ n ∧ n < t
      · rw [if_pos hn, if_pos (by omega)]
        by_cases hn2 : n < y.t
        · rw [if_pos (by omega), if_pos (by omega)] at this; exact this
        · exact (hg n (by omega) hn.2).symm
      · rw [if_neg hn]
        rw [if_neg (by omega)] at this
        rw [this]
        by_cases h3 : 0 ≤ n ∧ n < y.t
        · rw [if_pos h3, if_pos (by omega)]
        · rw [if_neg h3, if_neg (by omega)]
    · rename_i hy
      refine ⟨Asc.snoc.2 ⟨hc', h0, h1, h2, by simp only; omega, hk.2, by rw [fin_snoc]; exact hf, by rw [fin_snoc]; intro e1 e2; exact hy ⟨e1.symm, e2.symm⟩⟩, by rw [fin_snoc]; exact Int.le_refl _, fun n => ?_⟩
      have hle2 : ∀ b ∈ l ++ [y], b.t ≤ f := by
        intro b hb
        have := Asc.le_fin hc' b hb
        rw [fin_snoc] at this; simp only at this; omega
      rw [hold_snoc _ _ _ (by
        by_cases hn : f ≤ n ∧ n < t
        · exact .inr fun b hb => by have := hle2 b hb; omega
        · exact .inl hn)]
      simp only
      by_cases hn : f ≤ n ∧ n < t
      · rw [if_pos hn, if_pos (by omega), hg n hn.1 hn.2]
      · rw [if_neg hn, hh n]
        by_cases h3 : 0 ≤ n ∧ n < f
        · rw [if_pos h3, if_pos (by omega)]
        · rw [if_neg h3, if_neg (by omega)]
/-- who holds the number n, and up to where, in what is left of a map -/
def at_ : List B3 → Int → List B3 × Int × Int
  | [], _ => ([], -1, 100000000)
  | b :: l, n => if b.t ≤ n then at_ l n else if n < b.f then (b :: l, -1, b.f) else (b :: l, b.c, b.t)
theorem at_gt (l : List B3) {n : Int} (h : n < 100000000) : n < (at_ l n).2.2 := by
  induction l with
  | nil => exact h
  | cons b l ih =>
    unfold at_
    split
    · exact ih
    · split <;> simp only <;> omega
/-- the longest ranges from n on on which two maps are constant, with those who hold them -/
def pieces (a b : List B3) (n : Int) : List (Int × Int × Int × Int) :=
  if _h : n < 100000000 then
    (n, min (at_ a n).2.2 (at_ b n).2.2, (at_ a n).2.1, (at_ b n).2.1) :: pieces (at_ a n).1 (at_ b n).1 (min (at_ a n).2.2 (at_ b n).2.2)
  else []
termination_by (100000000 - n).toNat
decreasing_by
  have h1 := at_gt a _h
  have h2 := at_gt b _h
  omega
theorem at_suffix (l : List B3) (n : Int) : ∃ pre, l = pre ++ (at_ l n).1 := by
  induction l with
  | nil => exact ⟨[], rfl⟩
  | cons b l ih =>
    unfold at_; split
    · obtain ⟨pre, h⟩ := ih; exact ⟨b :: pre, by rw [List.cons_append, ← h]⟩
    · split <;> exact ⟨[], rfl⟩
/-- ascending, wherever it begins -/
def Some (l : List B3) : Prop := ∃ e k, Asc e k l
theorem Asc.some {e k : Int} {l : List B3} (h : Asc e k l) : Some l := ⟨e, k, h⟩
theorem Some.tail {b : B3} {l : List B3} (h : Some (b :: l)) : Some l := by obtain ⟨e, k, h⟩ := h; exact ⟨_, _, h.2.2.2.2.2.2.2⟩
theorem at_spec {l : List B3} (h : Some l) (n : Int) : Some (at_ l n).1 ∧ (at_ l n).2.2 ≤ 100000000 ∧ (∀ m, n ≤ m → m < (at_ l n).2.2 → hold l m = (at_ l n).2.1) ∧ (∀ m, n ≤ m → hold (at_ l n).1 m = hold l m) ∧ -1 ≤ (at_ l n).2.1 ∧ (at_ l n).2.1 ≤ 7 := by
  induction l with
  | nil => exact ⟨h, Int.le_refl _, fun _ _ _ => rfl, fun _ _ => rfl, by simp [at_], by simp [at_]⟩
  | cons b l ih =>
    have h0 := h
    obtain ⟨e, k, h1, h2, h3, h4, h5, h6, h7, h8⟩ := h0
    by_cases hb : b.t ≤ n
    · rw [show at_ (b :: l) n = at_ l n by rw [at_, if_pos hb]]
      obtain ⟨i1, i2, i3, i4, i5⟩ := ih h.tail
      refine ⟨i1, i2, fun m hm hm2 => ?_, fun m hm => ?_, i5⟩
      · rw [hold_out l (by omega)]; exact i3 m hm hm2
      · rw [hold_out l (by omega)]; exact i4 m hm
    · by_cases hf : n < b.f
      · rw [show at_ (b :: l) n = (b :: l, -1, b.f) by rw [at_, if_neg hb, if_pos hf]]
        refine ⟨h, by simp only; omega, fun m hm hm2 => ?_, fun _ _ => rfl, by simp, by simp⟩
        simp only at hm2
        rw [hold_out l (by omega)]; exact hold_lt h8 (by omega)
      · rw [show at_ (b :: l) n = (b :: l, b.c, b.t) by rw [at_, if_neg hb, if_neg hf]]
        refine ⟨h, h3, fun m hm hm2 => ?_, fun _ _ => rfl, by simp only; omega, h5⟩
        simp only at hm2
        exact hold_in l (by omega)
/-- a fold of steps over pieces gives the canonical list that is held as g says of those who hold in both -/
theorem fold_pieces (g : Int → Int → Int) (hgr : ∀ x y, -1 ≤ x → x ≤ 7 → -1 ≤ y → y ≤ 7 → -1 ≤ g x y ∧ g x y ≤ 7) {a b : List B3} (A B : Int → Int) {n : Int} (ha : Some a) (hb : Some b) (hn : 0 ≤ n) (hn2 : n ≤ 100000000)
    (hA : ∀ m, n ≤ m → hold a m = A m) (hB : ∀ m, n ≤ m → hold b m = B m) {out : List B3} (ho : Upto (fun m => g (A m) (B m)) n out) :
    Upto (fun m => g (A m) (B m)) 100000000 ((pieces a b n).foldl (fun o p => step o p.1 p.2.1 (g p.2.2.1 p.2.2.2)) out) := by
  obtain ⟨d, hd⟩ : ∃ d, d = (100000000 - n).toNat := ⟨_, rfl⟩
  induction d using Nat.strongRecOn generalizing a b n out with
  | _ d ih =>
    by_cases h : n < 100000000
    · rw [pieces, dif_pos h, List.foldl_cons]
      obtain ⟨a1, a2, a3, a4, a5, a6⟩ := at_spec ha n
      obtain ⟨b1, b2, b3, b4, b5, b6⟩ := at_spec hb n
      have hga := at_gt a h
      have hgb := at_gt b h
      obtain ⟨t, ht⟩ : ∃ t, t = min (at_ a n).2.2 (at_ b n).2.2 := ⟨_, rfl⟩
      rw [← ht]
      refine ih ((100000000 - t).toNat) (by omega) a1 b1 (by omega) (by omega) (fun m hm => (a4 m (by omega)).trans (hA m (by omega))) (fun m hm => (b4 m (by omega)).trans (hB m (by omega))) ?_ rfl
      refine Upto.step ho hn (by omega) (by omega) (hgr _ _ a5 a6 b5 b6) fun m hm hm2 => ?_
      rw [← hA m hm, ← hB m hm, a3 m hm (by omega), b3 m hm (by omega)]
    · rw [pieces, dif_neg h]
      have : n = 100000000 := by omega
      subst this; exact ho
/-- every end of a range is in K -/
def Cut (K : List Int) (l : List B3) : Prop := ∀ b ∈ l, b.f ∈ K ∧ b.t ∈ K
theorem Cut.nil (K : List Int) : Cut K [] := fun _ h => by simp at h
theorem Cut.mono {K K' : List Int} {l : List B3} (h : Cut K l) (hK : ∀ x ∈ K, x ∈ K') : Cut K' l := fun b hb => ⟨hK _ (h b hb).1, hK _ (h b hb).2⟩
/-- where the holder changes, there is an end of a range -/
theorem change_mem {l : List B3} {e k : Int} (h : Asc e k l) {n : Int} (hn : hold l (n - 1) ≠ hold l n) : ∃ b ∈ l, b.f = n ∨ b.t = n := by
  induction l generalizing e k with
  | nil => exact absurd rfl hn
  | cons b l ih =>
    obtain ⟨h1, h2, h3, h4, h5, h6, h7, h8⟩ := h
    by_cases hb : b.f = n ∨ b.t = n
    · exact ⟨b, by simp, hb⟩
    · by_cases hi : b.f ≤ n ∧ n < b.t
      · rw [hold_in l hi, hold_in l (by omega)] at hn; exact absurd rfl hn
      · rw [hold_out l hi, hold_out l (by omega)] at hn
        obtain ⟨c, hc, hh⟩ := ih h8 hn
        exact ⟨c, by simp [hc], hh⟩
/-- at each end of a range of a canonical list the holder changes -/
theorem mem_change {l : List B3} {e k : Int} (h : Asc e k l) {b : B3} (hb : b ∈ l) : (b.f ≠ e → hold l (b.f - 1) ≠ hold l b.f) ∧ hold l (b.t - 1) ≠ hold l b.t := by
  induction l generalizing e k with
  | nil => simp at hb
  | cons c l ih =>
    obtain ⟨h1, h2, h3, h4, h5, h6, h7, h8⟩ := h
    rcases List.mem_cons.1 hb with rfl | hb
    · constructor
      · intro _
        rw [hold_out (n := b.f - 1) l (by omega), hold_in (n := b.f) l (by omega), hold_lt h8 (by omega)]; omega
      · rw [hold_in (n := b.t - 1) l (by omega), hold_out (n := b.t) l (by omega)]
        exact (hold_at h8 h4).symm
    · have hmem : c.t ≤ b.f ∧ b.f < b.t := by
        clear ih
        have : ∀ (l : List B3) e k, Asc e k l → b ∈ l → e ≤ b.f ∧ b.f < b.t := by
          intro l
          induction l with
          | nil => intro _ _ _ hm; simp at hm
          | cons x l ih2 =>
            intro e k hx hm
            obtain ⟨x1, x2, x3, x4, x5, x6, x7, x8⟩ := hx
            rcases List.mem_cons.1 hm with rfl | hm
            · exact ⟨x6, x2⟩
            · have := ih2 _ _ x8 hm; omega
        exact this l _ _ h8 hb
      have i := ih h8 hb
      constructor
      · intro _
        by_cases he : b.f = c.t
        · rw [hold_in (n := b.f - 1) l (by omega), hold_out (n := b.f) l (by omega), he]
          exact (hold_at h8 h4).symm
        · rw [hold_out l (by omega), hold_out l (by omega)]; exact i.1 he
      · by_cases he : b.t - 1 < c.t
        · omega
        · rw [hold_out l (by omega), hold_out l (by omega)]; exact i.2
theorem Canon.change {l : List B3} (h : Canon l) {b : B3} (hb : b ∈ l) : hold l (b.f - 1) ≠ hold l b.f ∧ hold l (b.t - 1) ≠ hold l b.t := by
  have h' : Asc (-5) (-1) l := by
    cases l with
    | nil => trivial
    | cons c l => obtain ⟨h1, h2, h3, h4, h5, h6, h7, h8⟩ := h; exact ⟨h1, h2, h3, h4, h5, by omega, fun _ => by omega, h8⟩
  have hf : 0 ≤ b.f := by
    have : ∀ (l : List B3) e k, Asc e k l → b ∈ l → 0 ≤ b.f := by
      intro l
      induction l with
      | nil => intro _ _ _ hm; simp at hm
      | cons x l ih2 =>
        intro e k hx hm
        obtain ⟨x1, x2, x3, x4, x5, x6, x7, x8⟩ := hx
        rcases List.mem_cons.1 hm with rfl | hm
        · exact x1
        · exact ih2 _ _ x8 hm
    exact this l _ _ h hb
  exact ⟨(mem_change h' hb).1 (by omega), (mem_change h' hb).2⟩
/-- a canonical list that is held as g says of two others has no ends but theirs -/
theorem cut_of {l a b : List B3} {K : List Int} {g : Int → Int → Int} (hl : Canon l) (ha : Canon a) (hb : Canon b) (hKa : Cut K a) (hKb : Cut K b) (hg : ∀ n, hold l n = g (hold a n) (hold b n)) : Cut K l := by
  have key : ∀ n, hold l (n - 1) ≠ hold l n → n ∈ K := by
    intro n hn
    rw [hg, hg] at hn
    by_cases h1 : hold a (n - 1) = hold a n
    · by_cases h2 : hold b (n - 1) = hold b n
      · rw [h1, h2] at hn; exact absurd rfl hn
      · obtain ⟨c, hc, rfl | rfl⟩ := change_mem hb h2
        · exact (hKb c hc).1
        · exact (hKb c hc).2
    · obtain ⟨c, hc, rfl | rfl⟩ := change_mem ha h1
      · exact (hKa c hc).1
      · exact (hKa c hc).2
  exact fun c hc => ⟨key _ (hl.change hc).1, key _ (hl.change hc).2⟩
theorem asc_lo {l : List B3} {e k : Int} (h : Asc e k l) {b : B3} (hb : b ∈ l) : e ≤ b.f ∧ b.f < b.t := by
  induction l generalizing e k with
  | nil => simp at hb
  | cons x l ih =>
    obtain ⟨x1, x2, x3, x4, x5, x6, x7, x8⟩ := h
    rcases List.mem_cons.1 hb with rfl | hb
    · exact ⟨x6, x2⟩
    · have := ih x8 hb; omega
theorem asc_len {l : List B3} {e k : Int} {K : List Int} (h : Asc e k l) (hK : Cut K l) (hl : l ≠ []) : l.length + 1 ≤ K.length := by
  induction l generalizing e k K with
  | nil => exact absurd rfl hl
  | cons b l ih =>
    obtain ⟨h1, h2, h3, h4, h5, h6, h7, h8⟩ := h
    have hb := hK b (by simp)
    have hlt : (K.filter (fun x => decide (b.f < x))).length < K.length := List.length_filter_lt_length_iff_exists.2 ⟨b.f, hb.1, by simp⟩
    by_cases hl2 : l = []
    · subst hl2
      have : b.t ∈ K.filter (fun x => decide (b.f < x)) := by simp [hb.2, h2]
      have := List.length_pos_of_mem this
      simp; omega
    · have := ih (K := K.filter (fun x => decide (b.f < x))) h8 (fun c hc => by
        have h9 := asc_lo h8 hc
        have := hK c (by simp [hc])
        simp [this]; omega) hl2
      simp; omega
theorem canon_len {l : List B3} {K : List Int} (h : Canon l) (hK : Cut K l) : l.length + 1 ≤ K.length ∨ l = [] := by
  by_cases hl : l = []
  · exact .inr hl
  · exact .inl (asc_len h hK hl)
end Go.Dial.Blk
namespace Go.Dial.Blk
/-- the canonical list that is held as g says -/
def IsMap (g : Int → Int) (o : List B3) : Prop := Canon o ∧ ∀ n, 0 ≤ n → n < 100000000 → hold o n = g n
theorem IsMap.uniq {g : Int → Int} {a b : List B3} (ha : IsMap g a) (hb : IsMap g b) : a = b := Canon.uniq ha.1 hb.1 fun n h1 h2 => by rw [ha.2 n h1 h2, hb.2 n h1 h2]
theorem IsMap.congr {g g' : Int → Int} {a : List B3} (ha : IsMap g a) (h : ∀ n, 0 ≤ n → n < 100000000 → g n = g' n) : IsMap g' a := ⟨ha.1, fun n h1 h2 => by rw [ha.2 n h1 h2, h n h1 h2]⟩
open Classical in
noncomputable def mapOf (g : Int → Int) : List B3 := if h : ∃ o, IsMap g o then h.choose else []
theorem mapOf_eq {g : Int → Int} {o : List B3} (h : IsMap g o) : mapOf g = o := by
  unfold mapOf
  rw [dif_pos ⟨o, h⟩]
  exact (Exists.choose_spec (p := fun o => IsMap g o) ⟨o, h⟩).uniq h
theorem Upto.isMap {g : Int → Int} {o : List B3} (h : Upto g 100000000 o) : IsMap g o := ⟨h.1, fun n h1 h2 => by rw [h.2.2 n, if_pos ⟨h1, h2⟩]⟩
theorem Canon.isMap {l : List B3} (h : Canon l) : IsMap (hold l) l := ⟨h, fun _ _ _ => rfl⟩
theorem mapOf_hold {l : List B3} (h : Canon l) : mapOf (hold l) = l := mapOf_eq h.isMap
theorem hold_out_bd {l : List B3} {e k n : Int} (h : Asc e k l) (hn : n < 0 ∨ 100000000 ≤ n) : hold l n = -1 := by
  have h1 := hold_range h n
  by_cases h2 : 0 ≤ hold l n
  · have := hold_bd h h2; omega
  · omega
/-- what a list of blocks and an error are: too many are none -/
noncomputable def combR (g : Int → Int) : List B3 × Int := if (mapOf g).length ≤ 40 then (mapOf g, 0) else ([], 130)
/-- numbers, ascending, each once -/
def putI : List Int → Int → List Int
  | [], n => [n]
  | x :: l, n => if x < n then x :: putI l n else if x = n then x :: l else n :: x :: l
theorem putI_mem {l : List Int} {n y : Int} : y ∈ putI l n ↔ y = n ∨ y ∈ l := by
  induction l with
  | nil => simp [putI]
  | cons x l ih =>
    unfold putI
    split
    · simp only [List.mem_cons, ih]; grind
    · split
      · rename_i h; subst h; simp only [List.mem_cons]; grind
      · simp only [List.mem_cons]
theorem putI_sorted {l : List Int} {n : Int} (h : l.Pairwise (· < ·)) : (putI l n).Pairwise (· < ·) := by
  induction l with
  | nil => simp [putI]
  | cons x l ih =>
    rw [List.pairwise_cons] at h
    unfold putI
    split
    · rename_i hx
      rw [List.pairwise_cons]
      refine ⟨fun y hy => ?_, ih h.2⟩
      rcases putI_mem.1 hy with rfl | hy
      · exact hx
      · exact h.1 y hy
    · split
      · rw [List.pairwise_cons]; exact h
      · rename_i h1 h2
        rw [List.pairwise_cons, List.pairwise_cons]
        refine ⟨fun y hy => ?_, h⟩
        rcases List.mem_cons.1 hy with rfl | hy
        · omega
        · have := h.1 y hy; omega
theorem putI_len (l : List Int) (n : Int) : (putI l n).length ≤ l.length + 1 := by
  induction l with
  | nil => simp [putI]
  | cons x l ih =>
    unfold putI
    split
    · simp; omega
    · split <;> simp
/-- the ends of a map's ranges put to others -/
def putB (o : List Int) (l : List B3) : List Int := l.foldl (fun o b => putI (putI o b.f) b.t) o
theorem putB_mem (l : List B3) : ∀ (o : List Int) (y : Int), y ∈ putB o l ↔ y ∈ o ∨ ∃ b ∈ l, y = b.f ∨ y = b.t := by
  induction l with
  | nil => intro o y; simp [putB]
  | cons b l ih =>
    intro o y
    show y ∈ putB (putI (putI o b.f) b.t) l ↔ _
    rw [ih, putI_mem, putI_mem]
    simp only [List.mem_cons, exists_eq_or_imp]
    grind
theorem putB_sorted (l : List B3) : ∀ (o : List Int), o.Pairwise (· < ·) → (putB o l).Pairwise (· < ·) := by
  induction l with
  | nil => intro o h; exact h
  | cons b l ih => intro o h; exact ih _ (putI_sorted (putI_sorted h))
theorem putB_len (l : List B3) : ∀ (o : List Int), (putB o l).length ≤ o.length + 2 * l.length := by
  induction l with
  | nil => intro o; simp [putB]
  | cons b l ih =>
    intro o
    have h1 := ih (putI (putI o b.f) b.t)
    have h2 := putI_len (putI o b.f) b.t
    have h3 := putI_len o b.f
    show (putB (putI (putI o b.f) b.t) l).length ≤ _
    simp only [List.length_cons]; omega
def edgesI (a b : List B3) : List Int := putB (putB [0, 100000000] a) b
theorem asc_bd {l : List B3} {e k : Int} (h : Asc e k l) {b : B3} (hb : b ∈ l) : 0 ≤ b.f ∧ b.f < b.t ∧ b.t ≤ 100000000 ∧ 0 ≤ b.c ∧ b.c ≤ 7 := by
  induction l generalizing e k with
  | nil => simp at hb
  | cons x l ih =>
    obtain ⟨x1, x2, x3, x4, x5, x6, x7, x8⟩ := h
    rcases List.mem_cons.1 hb with rfl | hb
    · exact ⟨x1, x2, x3, x4, x5⟩
    · exact ih x8 hb
/-- the ends of two maps: from 0 to all numbers, ascending -/
structure Edges (a b : List B3) (E : List Int) : Prop where
  sorted : E.Pairwise (· < ·)
  first : E[0]? = some 0
  last : E[E.length - 1]? = some 100000000
  two : 2 ≤ E.length
  mem : ∀ c, c ∈ a ∨ c ∈ b → c.f ∈ E ∧ c.t ∈ E
theorem sorted_get {E : List Int} (h : E.Pairwise (· < ·)) {i j : Nat} {x y : Int} (hi : E[i]? = some x) (hj : E[j]? = some y) (hij : i < j) : x < y := by
  obtain ⟨h1, rfl⟩ := List.getElem?_eq_some_iff.1 hi
  obtain ⟨h2, rfl⟩ := List.getElem?_eq_some_iff.1 hj
  exact List.pairwise_iff_getElem.1 h i j h1 h2 hij
theorem edges_of {a b : List B3} (ha : Canon a) (hb : Canon b) : Edges a b (edgesI a b) := by
  have hs : (edgesI a b).Pairwise (· < ·) := putB_sorted _ _ (putB_sorted _ _ (by decide))
  have hm : ∀ y, y ∈ edgesI a b ↔ (y = 0 ∨ y = 100000000) ∨ (∃ c ∈ a, y = c.f ∨ y = c.t) ∨ ∃ c ∈ b, y = c.f ∨ y = c.t := fun y => by
    unfold edgesI
    rw [putB_mem, putB_mem]
    simp only [List.mem_cons, List.not_mem_nil, or_false, or_assoc]
  have hbd : ∀ y ∈ edgesI a b, 0 ≤ y ∧ y ≤ 100000000 := fun y hy => by
    rcases (hm y).1 hy with (rfl | rfl) | ⟨c, hc, h⟩ | ⟨c, hc, h⟩
    · decide
    · decide
    · have := asc_bd ha hc; omega
    · have := asc_bd hb hc; omega
  have h0 : (0 : Int) ∈ edgesI a b := (hm 0).2 (.inl (.inl rfl))
  have h1 : (100000000 : Int) ∈ edgesI a b := (hm _).2 (.inl (.inr rfl))
  obtain ⟨i, hi⟩ := List.getElem?_of_mem h0
  obtain ⟨j, hj⟩ := List.getElem?_of_mem h1
  have hil := (List.getElem?_eq_some_iff.1 hi).1
  have hjl := (List.getElem?_eq_some_iff.1 hj).1
  have hi0 : i = 0 := by
    rcases Nat.eq_zero_or_pos i with h | h
    · exact h
    · have hz := List.getElem?_eq_getElem (l := edgesI a b) (i := 0) (by omega)
      have h2 := sorted_get hs hz hi h
      have h3 := (hbd _ (List.mem_of_getElem? hz)).1
      omega
  have hjl2 : j = (edgesI a b).length - 1 := by
    rcases Nat.lt_or_ge j ((edgesI a b).length - 1) with h | h
    · have hz := List.getElem?_eq_getElem (l := edgesI a b) (i := (edgesI a b).length - 1) (by omega)
      have h2 := sorted_get hs hj hz h
      have h3 := (hbd _ (List.mem_of_getElem? hz)).2
      omega
    · omega
  have hij : i ≠ j := fun h => by subst h; rw [hi] at hj; cases hj
  subst hi0; subst hjl2
  exact ⟨hs, hi, hj, by omega, fun c hc => ⟨(hm _).2 (.inr (by rcases hc with hc | hc; exact .inl ⟨c, hc, .inl rfl⟩; exact .inr ⟨c, hc, .inl rfl⟩)), (hm _).2 (.inr (by rcases hc with hc | hc; exact .inl ⟨c, hc, .inr rfl⟩; exact .inr ⟨c, hc, .inr rfl⟩))⟩⟩
/-- between two ends that follow each other nothing changes -/
theorem between {l : List B3} {E : List Int} (hl : Canon l) (hs : E.Pairwise (· < ·)) (hm : ∀ c ∈ l, c.f ∈ E ∧ c.t ∈ E) {i : Nat} {p q : Int} (hp : E[i]? = some p) (hq : E[i + 1]? = some q) : ∀ n, p ≤ n → n < q → hold l n = hold l p := by
  have noMem : ∀ n, p < n → n < q → n ∉ E := fun n h1 h2 hn => by
    obtain ⟨j, hj⟩ := List.getElem?_of_mem hn
    rcases Nat.lt_or_ge i j with h3 | h3
    · rcases Nat.lt_or_ge (i + 1) j with h4 | h4
      · have := sorted_get hs hq hj h4; omega
      · have : j = i + 1 := by omega
        subst this; rw [hq] at hj; cases hj; omega
    · rcases Nat.lt_or_ge j i with h4 | h4
      · have := sorted_get hs hj hp h4; omega
      · have : j = i := by omega
        subst this; rw [hp] at hj; cases hj; omega
  have key : ∀ (k : Nat), p + k < q → hold l (p + k) = hold l p := by
    intro k
    induction k with
    | zero => intro _; simp
    | succ k ih =>
      intro hk
      have h1 := ih (by omega)
      by_cases h2 : hold l (p + (k + 1 : Nat) - 1) = hold l (p + (k + 1 : Nat))
      · rw [← h2, ← h1]; congr 1; omega
      · obtain ⟨c, hc, h3⟩ := change_mem hl h2
        have := hm c hc
        rcases h3 with h3 | h3
        · exact absurd (h3 ▸ this.1) (noMem _ (by omega) hk)
        · exact absurd (h3 ▸ this.2) (noMem _ (by omega) hk)
  intro n h1 h2
  have := key (n - p).toNat (by omega)
  rwa [show p + ((n - p).toNat : Int) = n by omega] at this
/-- the state of a walk over the pieces of two maps -/
structure PInv (g : Int → Int → Int) (A B : Int → Int) (from_ : Int) (o a b : List B3) : Prop where
  lo : 0 ≤ from_
  hi : from_ ≤ 100000000
  up : Upto (fun m => g (A m) (B m)) from_ o
  sa : Some a
  sb : Some b
  ha : ∀ m, from_ ≤ m → hold a m = A m
  hb : ∀ m, from_ ≤ m → hold b m = B m
  len : o.length ≤ from_.toNat
theorem step_len (o : List B3) (f t k : Int) : (step o f t k).length ≤ o.length + 1 := by
  unfold step
  split
  · omega
  · split
    · rename_i y hy
      split
      · have : o ≠ [] := fun h => by subst h; simp at hy
        have := List.length_pos_iff.2 this
        simp
        try omega
      · simp
    · simp
theorem PInv.begin (g : Int → Int → Int) {a b : List B3} (ha : Canon a) (hb : Canon b) : PInv g (hold a) (hold b) 0 [] a b := ⟨by decide, by decide, Upto.nil _, ⟨_, _, ha⟩, ⟨_, _, hb⟩, fun _ _ => rfl, fun _ _ => rfl, by simp⟩
theorem PInv.next {g : Int → Int → Int} {A B : Int → Int} {p : Int} {o a b : List B3} (hg : ∀ x y, -1 ≤ x → x ≤ 7 → -1 ≤ y → y ≤ 7 → -1 ≤ g x y ∧ g x y ≤ 7) (h : PInv g A B p o a b) (hp : p < 100000000) :
    p < min (at_ a p).2.2 (at_ b p).2.2 ∧ PInv g A B (min (at_ a p).2.2 (at_ b p).2.2) (step o p (min (at_ a p).2.2 (at_ b p).2.2) (g (at_ a p).2.1 (at_ b p).2.1)) (at_ a p).1 (at_ b p).1 := by
  obtain ⟨a1, a2, a3, a4, a5, a6⟩ := at_spec h.sa p
  obtain ⟨b1, b2, b3, b4, b5, b6⟩ := at_spec h.sb p
  have ga := at_gt a hp
  have gb := at_gt b hp
  have h0 := h.lo
  obtain ⟨t, ht⟩ : ∃ t, t = min (at_ a p).2.2 (at_ b p).2.2 := ⟨_, rfl⟩
  rw [← ht]
  have hl := step_len o p t (g (at_ a p).2.1 (at_ b p).2.1)
  have hlen := h.len
  refine ⟨by omega, by omega, by omega, ?_, a1, b1, fun m hm => (a4 m (by omega)).trans (h.ha m (by omega)), fun m hm => (b4 m (by omega)).trans (h.hb m (by omega)), by omega⟩
  refine Upto.step h.up h0 (by omega) (by omega) (hg _ _ a5 a6 b5 b6) fun m h1 h2 => ?_
  rw [← h.ha m h1, ← h.hb m h1, a3 m h1 (by omega), b3 m h1 (by omega)]
theorem PInv.done {g : Int → Int → Int} {A B : Int → Int} {p : Int} {o a b : List B3} (h : PInv g A B p o a b) (hp : ¬ p ≤ 99999999) : IsMap (fun m => g (A m) (B m)) o ∧ mapOf (fun m => g (A m) (B m)) = o ∧ o.length ≤ 100000000 := by
  have h1 := h.hi
  have : p = 100000000 := by omega
  subst this
  exact ⟨h.up.isMap, mapOf_eq h.up.isMap, by have := h.len; omega⟩
end Go.Dial.Blk
namespace Go.Dial.Blk
theorem hold_mem {l : List B3} {e k : Int} (h : Asc e k l) {b : B3} (hb : b ∈ l) {n : Int} (hn : b.f ≤ n ∧ n < b.t) : hold l n = b.c := by
  induction l generalizing e k with
  | nil => simp at hb
  | cons x l ih =>
    obtain ⟨x1, x2, x3, x4, x5, x6, x7, x8⟩ := h
    rcases List.mem_cons.1 hb with rfl | hb
    · exact hold_in l hn
    · have := asc_lo x8 hb
      rw [hold_out l (by omega)]
      exact ih x8 hb
theorem hold_ex {l : List B3} {n : Int} (h : hold l n ≠ -1) : ∃ b ∈ l, b.f ≤ n ∧ n < b.t ∧ hold l n = b.c := by
  induction l with
  | nil => exact absurd rfl h
  | cons b l ih =>
    by_cases hb : b.f ≤ n ∧ n < b.t
    · exact ⟨b, by simp, hb.1, hb.2, hold_in l hb⟩
    · rw [hold_out l hb] at h ⊢
      obtain ⟨c, h1, h2⟩ := ih h
      exact ⟨c, by simp [h1], h2⟩
theorem first_of {l : List B3} (h : Canon l) {b : B3} (hb : b ∈ l) : hold l b.f ≠ -1 ∧ hold l (b.f - 1) ≠ hold l b.f := by
  have h1 := asc_bd h hb
  have h2 := hold_mem h hb (n := b.f) (by omega)
  exact ⟨by omega, (h.change hb).1⟩
theorem first_mem {l : List B3} (h : Canon l) {n : Int} (h1 : hold l n ≠ -1) (h2 : hold l (n - 1) ≠ hold l n) : n ∈ l.map (·.f) := by
  obtain ⟨b, hb, h3, h4, h5⟩ := hold_ex h1
  by_cases h6 : b.f = n
  · exact List.mem_map.2 ⟨b, hb, h6⟩
  · exact absurd ((hold_mem h hb (n := n - 1) (by omega)).trans h5.symm) h2
theorem sorted_len {s K : List Int} (hs : s.Pairwise (· < ·)) (h : ∀ x ∈ s, x ∈ K) : s.length ≤ K.length := by
  induction s generalizing K with
  | nil => simp
  | cons x s ih =>
    rw [List.pairwise_cons] at hs
    have hlt : (K.filter (fun y => decide (x < y))).length < K.length := List.length_filter_lt_length_iff_exists.2 ⟨x, h x (by simp), by simp⟩
    have := ih (K := K.filter (fun y => decide (x < y))) hs.2 fun y hy => by
      rw [List.mem_filter]
      exact ⟨h y (by simp [hy]), by simpa using hs.1 y hy⟩
    simp only [List.length_cons]; omega
theorem firsts_sorted {l : List B3} {e k : Int} (h : Asc e k l) : (l.map (·.f)).Pairwise (· < ·) := by
  induction l generalizing e k with
  | nil => simp
  | cons b l ih =>
    obtain ⟨h1, h2, h3, h4, h5, h6, h7, h8⟩ := h
    rw [List.map_cons, List.pairwise_cons]
    refine ⟨fun y hy => ?_, ih h8⟩
    obtain ⟨c, hc, rfl⟩ := List.mem_map.1 hy
    have := asc_lo h8 hc
    show b.f < c.f
    omega
/-- a map has no more blocks than numbers at which it may begin a block -/
theorem len_le {o : List B3} {K : List Int} (h : Canon o) (hK : ∀ n, hold o n ≠ -1 → hold o (n - 1) ≠ hold o n → n ∈ K) : o.length ≤ K.length := by
  have := sorted_len (firsts_sorted h) (K := K) fun x hx => by
    obtain ⟨b, hb, rfl⟩ := List.mem_map.1 hx
    have := first_of h hb
    exact hK _ this.1 this.2
  simpa using this
/-- what a map says, of all numbers -/
theorem IsMap.at {g : Int → Int} {o : List B3} (h : IsMap g o) (n : Int) : hold o n = if 0 ≤ n ∧ n < 100000000 then g n else -1 := by
  split
  · rename_i h1; exact h.2 n h1.1 h1.2
  · exact hold_out_bd h.1 (by omega)
theorem comb_map {a b : List B3} (ha : Canon a) (hb : Canon b) (g : Int → Int → Int) (hg : ∀ x y, -1 ≤ x → x ≤ 7 → -1 ≤ y → y ≤ 7 → -1 ≤ g x y ∧ g x y ≤ 7) : IsMap (fun m => g (hold a m) (hold b m)) (mapOf fun m => g (hold a m) (hold b m)) := by
  have := (fold_pieces g hg (hold a) (hold b) (n := 0) (a := a) (b := b) ⟨_, _, ha⟩ ⟨_, _, hb⟩ (by decide) (by decide) (fun _ _ => rfl) (fun _ _ => rfl) (out := []) (Upto.nil _)).isMap
  rw [mapOf_eq this]; exact this
/-- relabelled, a map has no more blocks -/
theorem relabel_len {l o : List B3} (hl : Canon l) (φ : Int → Int) (h0 : φ (-1) = -1) (h : IsMap (fun n => φ (hold l n)) o) : o.length ≤ l.length := by
  have := len_le (K := l.map (·.f)) h.1 fun n h1 h2 => by
    rw [h.at] at h1
    rw [h.at, h.at] at h2
    refine first_mem hl (fun hh => ?_) (fun hh => ?_)
    · simp only [hh, h0] at h1; split at h1 <;> exact h1 rfl
    · have := hold_out_bd hl (n := n - 1)
      split at h1
      · rename_i hn
        rw [if_pos hn] at h2
        by_cases hn1 : 0 ≤ n - 1 ∧ n - 1 < 100000000
        · rw [if_pos hn1, hh] at h2; exact h2 rfl
        · rw [this (by omega)] at hh
          rw [← hh, h0] at h1; exact h1 rfl
      · exact h1 rfl
  simpa using this
/-- cut to a range, a map has no more blocks -/
theorem only_len {l o : List B3} (hl : Canon l) (f t : Int) (h : IsMap (fun n => if f ≤ n ∧ n < t then hold l n else -1) o) : o.length ≤ l.length := by
  have := len_le (K := (l.map (·.f)).map (fun s => max s f)) h.1 fun n h1 h2 => by
    rw [h.at] at h1
    rw [h.at, h.at] at h2
    split at h1
    · rename_i hn
      rw [if_pos hn] at h2
      split at h1
      · rename_i hr
        rw [if_pos hr] at h2
        obtain ⟨b, hb, b1, b2, b3⟩ := hold_ex h1
        refine List.mem_map.2 ⟨b.f, List.mem_map.2 ⟨b, hb, rfl⟩, ?_⟩
        by_cases hnf : n = f
        · omega
        · by_cases hbn : b.f = n
          · omega
          · have h5 := asc_bd hl hb
            have := hold_mem hl hb (n := n - 1) (by omega)
            rw [if_pos (by omega), if_pos (by omega), this, b3] at h2
            exact absurd rfl h2
      · exact absurd rfl h1
    · exact absurd rfl h1
  simpa using this
/-- changed within a range, a map has at most two blocks more -/
theorem change_len {l o : List B3} (hl : Canon l) (f t : Int) (g : Int → Int → Int) (hg : ∀ n m x, (f ≤ n ∧ n < t ↔ f ≤ m ∧ m < t) → g n x = g m x) (h0 : ∀ n, ¬ (f ≤ n ∧ n < t) → g n (-1) = -1) (h3 : ∀ n x, g n (-1) = -1 ∨ g n x = g n (-1))
    (h : IsMap (fun n => g n (hold l n)) o) (hf0 : 0 ≤ f) : o.length ≤ l.length + 2 := by
  have := len_le (K := l.map (·.f) ++ [f, t]) h.1 fun n h1 h2 => by
    rw [List.mem_append]
    by_cases hnf : n = f
    · right; simp [hnf]
    · by_cases hnt : n = t
      · right; simp [hnt]
      · left
        rw [h.at] at h1
        rw [h.at, h.at] at h2
        have hnm : (f ≤ n - 1 ∧ n - 1 < t) ↔ (f ≤ n ∧ n < t) := by omega
        split at h1
        · rename_i hn
          rw [if_pos hn] at h2
          by_cases hn1 : 0 ≤ n - 1 ∧ n - 1 < 100000000
          · rw [if_pos hn1, hg (n - 1) n _ hnm] at h2
            by_cases hh : hold l (n - 1) = hold l n
            · rw [hh] at h2; exact absurd rfl h2
            · by_cases hz : hold l n = -1
              · by_cases hr : f ≤ n ∧ n < t
                · rcases h3 n (hold l (n - 1)) with h4 | h4
                  · rw [hz, h4] at h1; exact absurd rfl h1
                  · rw [hz, h4] at h2; exact absurd rfl h2
                · rw [hz, h0 n hr] at h1; exact absurd rfl h1
              · exact first_mem hl hz hh
          · have : n = 0 := by omega
            subst this
            have hr : ¬ (f ≤ 0 ∧ 0 < t) := by omega
            by_cases hz : hold l 0 = -1
            · rw [hz, h0 0 hr] at h1; exact absurd rfl h1
            · refine first_mem hl hz ?_
              rw [hold_out_bd hl (by omega)]; exact fun h => hz h.symm
        · exact absurd rfl h1
  simpa using this
/-- how many numbers a carrier holds -/
def cntL : List B3 → Int → Int
  | [], _ => 0
  | b :: l, c => (if b.c = c then b.t - b.f else 0) + cntL l c
theorem cnt_bd {l : List B3} {e k : Int} (h : Asc e k l) (he : e ≤ 100000000) (c : Int) : 0 ≤ cntL l c ∧ cntL l c ≤ 100000000 - e := by
  induction l generalizing e k with
  | nil => simp [cntL]; omega
  | cons b l ih =>
    obtain ⟨h1, h2, h3, h4, h5, h6, h7, h8⟩ := h
    have := ih h8 h3
    unfold cntL; split <;> omega
theorem cnt_snoc (l : List B3) (b : B3) (c : Int) : cntL (l ++ [b]) c = cntL l c + if b.c = c then b.t - b.f else 0 := by
  induction l with
  | nil => simp [cntL]
  | cons x l ih => rw [List.cons_append, cntL, cntL, ih]; omega
/-- the sum of F over 0 .. k-1 -/
def sumTo (F : Int → Int) : Nat → Int
  | 0 => 0
  | k + 1 => sumTo F k + F k
theorem sumTo_congr {F G : Int → Int} {k : Nat} (h : ∀ n : Int, 0 ≤ n → n < k → F n = G n) : sumTo F k = sumTo G k := by
  induction k with
  | zero => rfl
  | succ k ih => rw [sumTo, sumTo, ih (fun n h1 h2 => h n h1 (by omega)), h k (by omega) (by omega)]
theorem sumTo_add (F G : Int → Int) (k : Nat) : sumTo (fun n => F n + G n) k = sumTo F k + sumTo G k := by
  induction k with
  | zero => rfl
  | succ k ih => simp only [sumTo, ih]; omega
theorem sumTo_zero (k : Nat) : sumTo (fun _ => 0) k = 0 := by
  induction k with
  | zero => rfl
  | succ k ih => simp [sumTo, ih]
theorem sumTo_range (f t : Int) (hf : 0 ≤ f) (k : Nat) : sumTo (fun n => if f ≤ n ∧ n < t then 1 else 0) k = if f ≤ t then (if t ≤ k then t - f else if f ≤ k then k - f else 0) else 0 := by
  induction k with
  | zero => simp only [sumTo]; repeat' split <;> omega
  | succ k ih => rw [sumTo, ih]; repeat' split <;> omega
/-- the indicator of a carrier -/
def ind (H : Int → Int) (c n : Int) : Int := if H n = c then 1 else 0
theorem cnt_sum {big : Nat} (big_eq : (big : Int) = 100000000) {l : List B3} {e k : Int} (h : Asc e k l) {c : Int} (hc : 0 ≤ c) : cntL l c = sumTo (ind (hold l) c) big := by
  induction l generalizing e k with
  | nil =>
    have : sumTo (ind (hold []) c) big = sumTo (fun _ => 0) big := sumTo_congr fun n _ _ => by
      unfold ind; split
      · rename_i h; rw [hold_nil] at h; omega
      · rfl
    rw [this, sumTo_zero]; rfl
  | cons b l ih =>
    obtain ⟨h1, h2, h3, h4, h5, h6, h7, h8⟩ := h
    have e1 : sumTo (ind (hold (b :: l)) c) big = sumTo (fun n => (if b.c = c then (if b.f ≤ n ∧ n < b.t then 1 else 0) else 0) + ind (hold l) c n) big := sumTo_congr fun n _ _ => by
      by_cases hb : b.f ≤ n ∧ n < b.t
      · simp only [ind, hold_in l hb, hold_lt h8 hb.2]
        rw [if_pos hb, if_neg (show ¬ (-1 : Int) = c by omega)]; omega
      · simp only [ind, hold_out l hb]
        rw [if_neg hb]; split <;> omega
    have e2 : sumTo (fun n => (if b.c = c then (if b.f ≤ n ∧ n < b.t then 1 else 0) else 0)) big = if b.c = c then b.t - b.f else 0 := by
      by_cases hbc : b.c = c
      · rw [if_pos hbc]
        have e3 : sumTo (fun n => (if b.c = c then (if b.f ≤ n ∧ n < b.t then 1 else 0) else 0)) big = sumTo (fun n => if b.f ≤ n ∧ n < b.t then 1 else 0) big := sumTo_congr fun n _ _ => by rw [if_pos hbc]
        rw [e3, sumTo_range b.f b.t h1 big, big_eq, if_pos (by omega), if_pos h3]
      · rw [if_neg hbc]
        have e3 : sumTo (fun n => (if b.c = c then (if b.f ≤ n ∧ n < b.t then 1 else 0) else 0)) big = sumTo (fun _ => 0) big := sumTo_congr fun n _ _ => by rw [if_neg hbc]
        rw [e3, sumTo_zero]
    rw [e1, sumTo_add, ← ih h8, cntL, e2]
/-- who holds alike, holds as many -/
theorem cnt_congr {a b : List B3} (ha : Canon a) (hb : Canon b) {c d : Int} (hc : 0 ≤ c) (hd : 0 ≤ d) (h : ∀ n, 0 ≤ n → n < 100000000 → (hold a n = c ↔ hold b n = d)) : cntL a c = cntL b d := by
  obtain ⟨big, hbig⟩ : ∃ k : Nat, (k : Int) = 100000000 := ⟨100000000, rfl⟩
  rw [cnt_sum hbig ha hc, cnt_sum hbig hb hd]
  refine sumTo_congr fun n h1 h2 => ?_
  have := h n h1 (by omega)
  unfold ind
  by_cases h3 : hold a n = c
  · rw [if_pos h3, if_pos (this.1 h3)]
  · rw [if_neg h3, if_neg (fun h4 => h3 (this.2 h4))]
theorem cnt_none {a : List B3} (ha : Canon a) {c : Int} (hc : 0 ≤ c) (h : ∀ n, 0 ≤ n → n < 100000000 → hold a n ≠ c) : cntL a c = 0 := by
  obtain ⟨big, hbig⟩ : ∃ k : Nat, (k : Int) = 100000000 := ⟨100000000, rfl⟩
  rw [cnt_sum hbig ha hc]
  have := sumTo_congr (F := ind (hold a) c) (G := fun _ => 0) (k := big) fun n h1 h2 => by
    unfold ind; rw [if_neg (h n h1 (by omega))]
  rw [this, sumTo_zero]
end Go.Dial.Blk
