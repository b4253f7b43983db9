/-
  Plain mathematics of maps of blocks: how many blocks a map has; how many numbers a carrier holds.
-/
import Derived.Test.YtgckmifmjiklmaaBlkN
set_option linter.unusedVariables false
set_option linter.unusedSimpArgs false
namespace Go.Dial.Blk
theorem hold_mem {l : List B3} {e k : Int} (h : Asc e k l) {b : B3} (hb : b ∈ l) {n : Int} (hn : b.f ≤ n ∧ n < b.t) : hold l n = b.c := by
  induction l generalizing e k with
  | nil => simp at hb
  | cons x l ih =>
    obtain ⟨x1, x2, x3, x4, x5, x6, x7, x8⟩ := h
    rcases List.mem_cons.1 hb with rfl | hb
    · exact hold_in l hn
    · have := asc_lo x8 hb
      rw [hold_out l (by omega)]
      exact ih x8 hb
theorem hold_ex {l : List B3} {n : Int} (h : hold l n ≠ -1) : ∃ b ∈ l, b.f ≤ n ∧ n < b.t ∧ hold l n = b.c := by
  induction l with
  | nil => exact absurd rfl h
  | cons b l ih =>
    by_cases hb : b.f ≤ n ∧ n < b.t
    · exact ⟨b, by simp, hb.1, hb.2, hold_in l hb⟩
    · rw [hold_out l hb] at h ⊢
      obtain ⟨c, h1, h2⟩ := ih h
      exact ⟨c, by simp [h1], h2⟩
theorem first_of {l : List B3} (h : Canon l) {b : B3} (hb : b ∈ l) : hold l b.f ≠ -1 ∧ hold l (b.f - 1) ≠ hold l b.f := by
  have h1 := asc_bd h hb
  have h2 := hold_mem h hb (n := b.f) (by omega)
  exact ⟨by omega, (h.change hb).1⟩
theorem first_mem {l : List B3} (h : Canon l) {n : Int} (h1 : hold l n ≠ -1) (h2 : hold l (n - 1) ≠ hold l n) : n ∈ l.map (·.f) := by
  obtain ⟨b, hb, h3, h4, h5⟩ := hold_ex h1
  by_cases h6 : b.f = n
  · exact List.mem_map.2 ⟨b, hb, h6⟩
  · exact absurd ((hold_mem h hb (n := n - 1) (by omega)).trans h5.symm) h2
theorem sorted_len {s K : List Int} (hs : s.Pairwise (· < ·)) (h : ∀ x ∈ s, x ∈ K) : s.length ≤ K.length := by
  induction s generalizing K with
  | nil => simp
  | cons x s ih =>
    rw [List.pairwise_cons] at hs
    have hlt : (K.filter (fun y => decide (x < y))).length < K.length := List.length_filter_lt_length_iff_exists.2 ⟨x, h x (by simp), by simp⟩
    have := ih (K := K.filter (fun y => decide (x < y))) hs.2 fun y hy => by
      rw [List.mem_filter]
      exact ⟨h y (by simp [hy]), by simpa using hs.1 y hy⟩
    simp only [List.length_cons]; omega
theorem firsts_sorted {l : List B3} {e k : Int} (h : Asc e k l) : (l.map (·.f)).Pairwise (· < ·) := by
  induction l generalizing e k with
  | nil => simp
  | cons b l ih =>
    obtain ⟨h1, h2, h3, h4, h5, h6, h7, h8⟩ := h
    rw [List.map_cons, List.pairwise_cons]
    refine ⟨fun y hy => ?_, ih h8⟩
    obtain ⟨c, hc, rfl⟩ := List.mem_map.1 hy
    have := asc_lo h8 hc
    show b.f < c.f
    omega
/-- a map has no more blocks than numbers at which it may begin a block -/
theorem len_le {o : List B3} {K : List Int} (h : Canon o) (hK : ∀ n, hold o n ≠ -1 → hold o (n - 1) ≠ hold o n → n ∈ K) : o.length ≤ K.length := by
  have := sorted_len (firsts_sorted h) (K := K) fun x hx => by
    obtain ⟨b, hb, rfl⟩ := List.mem_map.1 hx
    have := first_of h hb
    exact hK _ this.1 this.2
  simpa using this
/-- what a map says, of all numbers -/
theorem IsMap.at {g : Int → Int} {o : List B3} (h : IsMap g o) (n : Int) : hold o n = if 0 ≤ n ∧ n < 100000000 then g n else -1 := by
  split
  · rename_i h1; exact h.2 n h1.1 h1.2
  · exact hold_out_bd h.1 (by omega)
theorem comb_map {a b : List B3} (ha : Canon a) (hb : Canon b) (g : Int → Int → Int) (hg : ∀ x y, -1 ≤ x → x ≤ 7 → -1 ≤ y → y ≤ 7 → -1 ≤ g x y ∧ g x y ≤ 7) : IsMap (fun m => g (hold a m) (hold b m)) (mapOf fun m => g (hold a m) (hold b m)) := by
  have := (fold_pieces g hg (hold a) (hold b) (n := 0) (a := a) (b := b) ⟨_, _, ha⟩ ⟨_, _, hb⟩ (by decide) (by decide) (fun _ _ => rfl) (fun _ _ => rfl) (out := []) (Upto.nil _)).isMap
  rw [mapOf_eq this]; exact this
/-- relabelled, a map has no more blocks -/
theorem relabel_len {l o : List B3} (hl : Canon l) (φ : Int → Int) (h0 : φ (-1) = -1) (h : IsMap (fun n => φ (hold l n)) o) : o.length ≤ l.length := by
  have := len_le (K := l.map (·.f)) h.1 fun n h1 h2 => by
    rw [h.at] at h1
    rw [h.at, h.at] at h2
    refine first_mem hl (fun hh => ?_) (fun hh => ?_)
    · simp only [hh, h0] at h1; split at h1 <;> exact h1 rfl
    · have := hold_out_bd hl (n := n - 1)
      split at h1
      · rename_i hn
        rw [if_pos hn] at h2
        by_cases hn1 : 0 ≤ n - 1 ∧ n - 1 < 100000000
        · rw [if_pos hn1, hh] at h2; exact h2 rfl
        · rw [this (by omega)] at hh
          rw [← hh, h0] at h1; exact h1 rfl
      · exact h1 rfl
  simpa using this
/-- cut to a range, a map has no more blocks -/
theorem only_len {l o : List B3} (hl : Canon l) (f t : Int) (h : IsMap (fun n => if f ≤ n ∧ n < t then hold l n else -1) o) : o.length ≤ l.length := by
  have := len_le (K := (l.map (·.f)).map (fun s => max s f)) h.1 fun n h1 h2 => by
    rw [h.at] at h1
    rw [h.at, h.at] at h2
    split at h1
    · rename_i hn
      rw [if_pos hn] at h2
      split at h1
      · rename_i hr
        rw [if_pos hr] at h2
        obtain ⟨b, hb, b1, b2, b3⟩ := hold_ex h1
        refine List.mem_map.2 ⟨b.f, List.mem_map.2 ⟨b, hb, rfl⟩, ?_⟩
        by_cases hnf : n = f
        · omega
        · by_cases hbn : b.f = n
          · omega
          · have h5 := asc_bd hl hb
            have := hold_mem hl hb (n := n - 1) (by omega)
            rw [if_pos (by omega), if_pos (by omega), this, b3] at h2
            exact absurd rfl h2
      · exact absurd rfl h1
    · exact absurd rfl h1
  simpa using this
/-- changed within a range, a map has at most two blocks more -/
theorem change_len {l o : List B3} (hl : Canon l) (f t : Int) (g : Int → Int → Int) (hg : ∀ n m x, (f ≤ n ∧ n < t ↔ f ≤ m ∧ m < t) → g n x = g m x) (h0 : ∀ n, ¬ (f ≤ n ∧ n < t) → g n (-1) = -1) (h3 : ∀ n x, g n (-1) = -1 ∨ g n x = g n (-1))
    (h : IsMap (fun n => g n (hold l n)) o) (hf0 : 0 ≤ f) : o.length ≤ l.length + 2 := by
  have := len_le (K := l.map (·.f) ++ [f, t]) h.1 fun n h1 h2 => by
    rw [List.mem_append]
    by_cases hnf : n = f
    · right; simp [hnf]
    · by_cases hnt : n = t
      · right; simp [hnt]
      · left
        rw [h.at] at h1
        rw [h.at, h.at] at h2
        have hnm : (f ≤ n - 1 ∧ n - 1 < t) ↔ (f ≤ n ∧ n < t) := by omega
        split at h1
        · rename_i hn
          rw [if_pos hn] at h2
          by_cases hn1 : 0 ≤ n - 1 ∧ n - 1 < 100000000
          · rw [if_pos hn1, hg (n - 1) n _ hnm] at h2
            by_cases hh : hold l (n - 1) = hold l n
            · rw [hh] at h2; exact absurd rfl h2
            · by_cases hz : hold l n = -1
              · by_cases hr : f ≤ n ∧ n < t
                · rcases h3 n (hold l (n - 1)) with h4 | h4
                  · rw [hz, h4] at h1; exact absurd rfl h1
                  · rw [hz, h4] at h2; exact absurd rfl h2
                · rw [hz, h0 n hr] at h1; exact absurd rfl h1
              · exact first_mem hl hz hh
          · have : n = 0 := by omega
            subst this
            have hr : ¬ (f ≤ 0 ∧ 0 < t) := by omega
            by_cases hz : hold l 0 = -1
            · rw [hz, h0 0 hr] at h1; exact absurd rfl h1
            · refine first_mem hl hz ?_
              rw [hold_out_bd hl (by omega)]; exact fun h => hz h.symm
        · exact absurd rfl h1
  simpa using this
/-- how many numbers a carrier holds -/
def cntL : List B3 → Int → Int
  | [], _ => 0
  | b :: l, c => (if b.c = c then b.t - b.f else 0) + cntL l c
theorem cnt_bd {l : List B3} {e k : Int} (h : Asc e k l) (he : e ≤ 100000000) (c : Int) : 0 ≤ cntL l c ∧ cntL l c ≤ 100000000 - e := by
  induction l generalizing e k with
  | nil => simp [cntL]; omega
  | cons b l ih =>
    obtain ⟨h1, h2, h3, h4, h5, h6, h7, h8⟩ := h
    have := ih h8 h3
    unfold cntL; split <;> omega
theorem cnt_snoc (l : List B3) (b : B3) (c : Int) : cntL (l ++ [b]) c = cntL l c + if b.c = c then b.t - b.f else 0 := by
  induction l with
  | nil => simp [cntL]
  | cons x l ih => rw [List.cons_append, cntL, cntL, ih]; omega
/-- the sum of F over 0 .. k-1 -/
def sumTo (F : Int → Int) : Nat → Int
  | 0 => 0
  | k + 1 => sumTo F k + F k
theorem sumTo_congr {F G : Int → Int} {k : Nat} (h : ∀ n : Int, 0 ≤ n → n < k → F n = G n) : sumTo F k = sumTo G k := by
  induction k with
  | zero => rfl
  | succ k ih => rw [sumTo, sumTo, ih (fun n h1 h2 => h n h1 (by omega)), h k (by omega) (by omega)]
theorem sumTo_add (F G : Int → Int) (k : Nat) : sumTo (fun n => F n + G n) k = sumTo F k + sumTo G k := by
  induction k with
  | zero => rfl
  | succ k ih => simp only [sumTo, ih]; omega
theorem sumTo_zero (k : Nat) : sumTo (fun _ => 0) k = 0 := by
  induction k with
  | zero => rfl
  | succ k ih => simp [sumTo, ih]
theorem sumTo_range (f t : Int) (hf : 0 ≤ f) (k : Nat) : sumTo (fun n => if f ≤ n ∧ n < t then 1 else 0) k = if f ≤ t then (if t ≤ k then t - f else if f ≤ k then k - f else 0) else 0 := by
  induction k with
  | zero => simp only [sumTo]; repeat' split <;> omega
  | succ k ih => rw [sumTo, ih]; repeat' split <;> omega
/-- the indicator of a carrier -/
def ind (H : Int → Int) (c n : Int) : Int := if H n = c then 1 else 0
theorem cnt_sum {big : Nat} (big_eq : (big : Int) = 100000000) {l : List B3} {e k : Int} (h : Asc e k l) {c : Int} (hc : 0 ≤ c) : cntL l c = sumTo (ind (hold l) c) big := by
  induction l generalizing e k with
  | nil =>
    have : sumTo (ind (hold []) c) big = sumTo (fun _ => 0) big := sumTo_congr fun n _ _ => by
      unfold ind; split
      · rename_i h; rw [hold_nil] at h; omega
      · rfl
    rw [this, sumTo_zero]; rfl
  | cons b l ih =>
    obtain ⟨h1, h2, h3, h4, h5, h6, h7, h8⟩ := h
    have e1 : sumTo (ind (hold (b :: l)) c) big = sumTo (fun n => (if b.c = c then (if b.f ≤ n ∧ n < b.t then 1 else 0) else 0) + ind (hold l) c n) big := sumTo_congr fun n _ _ => by
      by_cases hb : b.f ≤ n ∧ n < b.t
      · simp only [ind, hold_in l hb, hold_lt h8 hb.2]
        rw [if_pos hb, if_neg (show ¬ (-1 : Int) = c by omega)]; omega
      · simp only [ind, hold_out l hb]
        rw [if_neg hb]; split <;> omega
    have e2 : sumTo (fun n => (if b.c = c then (if b.f ≤ n ∧ n < b.t then 1 else 0) else 0)) big = if b.c = c then b.t - b.f else 0 := by
      by_cases hbc : b.c = c
      · rw [if_pos hbc]
        have e3 : sumTo (fun n => (if b.c = c then (if b.f ≤ n ∧ n < b.t then 1 else 0) else 0)) big = sumTo (fun n => if b.f ≤ n ∧ n < b.t then 1 else 0) big := sumTo_congr fun n _ _ => by rw [if_pos hbc]
        rw [e3, sumTo_range b.f b.t h1 big, big_eq, if_pos (by omega), if_pos h3]
      · rw [if_neg hbc]
        have e3 : sumTo (fun n => (if b.c = c then (if b.f ≤ n ∧ n < b.t then 1 else 0) else 0)) big = sumTo (fun _ => 0) big := sumTo_congr fun n _ _ => by rw [if_neg hbc]
        rw [e3, sumTo_zero]
    rw [e1, sumTo_add, ← ih h8, cntL, e2]
/-- who holds alike, holds as many -/
theorem cnt_congr {a b : List B3} (ha : Canon a) (hb : Canon b) {c d : Int} (hc : 0 ≤ c) (hd : 0 ≤ d) (h : ∀ n, 0 ≤ n → n < 100000000 → (hold a n = c ↔ hold b n = d)) : cntL a c = cntL b d := by
  obtain ⟨big, hbig⟩ : ∃ k : Nat, (k : Int) = 100000000 := ⟨100000000, rfl⟩
  rw [cnt_sum hbig ha hc, cnt_sum hbig hb hd]
  refine sumTo_congr fun n h1 h2 => ?_
  have := h n h1 (by omega)
  unfold ind
  by_cases h3 : hold a n = c
  · rw [if_pos h3, if_pos (this.1 h3)]
  · rw [if_neg h3, if_neg (fun h4 => h3 (this.2 h4))]
theorem cnt_none {a : List B3} (ha : Canon a) {c : Int} (hc : 0 ≤ c) (h : ∀ n, 0 ≤ n → n < 100000000 → hold a n ≠ c) : cntL a c = 0 := by
  obtain ⟨big, hbig⟩ : ∃ k : Nat, (k : Int) = 100000000 := ⟨100000000, rfl⟩
  rw [cnt_sum hbig ha hc]
  have := sumTo_congr (F := ind (hold a) c) (G := fun _ => 0) (k := big) fun n h1 h2 => by
    unfold ind; rw [if_neg (h n h1 (by omega))]
  rw [this, sumTo_zero]
end Go.Dial.Blk
