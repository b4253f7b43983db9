/-
  Plain laws of lives: what holds between two lines, of times, of stays.
-/
import Derived.Test.YtjhakonpnopcnaaLifM
set_option linter.unusedVariables false
set_option linter.unusedSimpArgs false
namespace Go.Dial.Lif

/-- what holds between a line and a later one -/
def Later (l m : Ln) : Prop := l.e ≤ m.e ∧ (m.e = l.e → l.s = 0 → m.s = 0) ∧ (m.e = l.e → m.s ≠ 0 → m.h = l.h) ∧ l.t ≤ m.t
theorem Later.refl (l : Ln) : Later l l := ⟨Int.le_refl _, fun _ h => h, fun _ _ => rfl, Int.le_refl _⟩
theorem Later.trans {a b c : Ln} (h : Later a b) (k : Later b c) : Later a c := by
  obtain ⟨h1, h2, h3, h4⟩ := h
  obtain ⟨k1, k2, k3, k4⟩ := k
  refine ⟨by omega, fun e s => k2 (by omega) (h2 (by omega) s), fun e s => ?_, by omega⟩
  have hb : b.s ≠ 0 := fun hb => s (k2 (by omega) hb)
  rw [k3 (by omega) s, h3 (by omega) hb]
theorem nxt_later {l : Ln} {e : Ev} (h : Ok l e) : Later l (nxt l e) := by
  obtain ⟨⟨h1, h2, h3, h4, h5, h6, h7, h8⟩, ⟨f1, f2, f3, f4, f5, f6⟩, p1, p2⟩ := h
  have ht := nxt_t l e
  refine ⟨?_, ?_, ?_, by omega⟩
  · unfold nxt; split; · simp only; omega
    split; · exact Int.le_refl _
    split; · exact Int.le_refl _
    split <;> exact Int.le_refl _
  · unfold nxt; split; · simp only; omega
    rename_i c1
    split; · simp only; omega
    split; · simp only; omega
    split; · simp only; omega
    simp
  · unfold nxt; split; · simp only; omega
    split; · simp
    split; · simp
    split; · simp
    simp
theorem all_later {l : Ln} {es : List Ev} (h : All l es) : Later l (fin l es) := by
  induction es generalizing l with
  | nil => exact Later.refl _
  | cons e es ih => exact (nxt_later h.1).trans (ih h.2)
/-- the line after the first i events -/
def lnK (es : List Ev) (i : Nat) : Ln := fin first (es.take i)
theorem lnK_later {es : List Ev} (h : All first es) {i j : Nat} (hij : i ≤ j) : Later (lnK es i) (lnK es j) := by
  have e : es.take j = es.take i ++ (es.drop i).take (j - i) := by
    rw [← List.take_add]; congr 1; omega
  unfold lnK
  rw [e, fin_app]
  have := all_take h j
  rw [e, all_app] at this
  exact all_later this.2
theorem lnK_succ {es : List Ev} {i : Nat} (hi : i < es.length) : lnK es (i + 1) = nxt (lnK es i) es[i] := by
  unfold lnK; rw [List.take_succ_eq_append_getElem hi, fin_app]; rfl
theorem lnK_t {es : List Ev} {i : Nat} (hi : i < es.length) : (lnK es (i + 1)).t = es[i].a := by rw [lnK_succ hi, nxt_t]
theorem lnK_ok {es : List Ev} (h : All first es) {i : Nat} (hi : i < es.length) : Ok (lnK es i) es[i] := by
  have h1 := all_take h (i + 1)
  rw [List.take_succ_eq_append_getElem hi, all_app] at h1
  exact h1.2.1
theorem lnK_vld {es : List Ev} (h : All first es) (i : Nat) : Vld (lnK es i) := all_vld vld_first (all_take h i)
theorem lnK_0 (es : List Ev) : lnK es 0 = first := rfl
theorem lnK_all (es : List Ev) : lnK es es.length = fin first es := by unfold lnK; rw [List.take_length]
theorem atL_eq (es : List Ev) (t : Int) : atL es t = lnK es (upto es t) := rfl

theorem upto_mono (es : List Ev) {s t : Int} (h : s ≤ t) : upto es s ≤ upto es t := by
  rcases Nat.lt_or_ge (upto es t) (upto es s) with h1 | h1
  · have h2 := upto_lt h1
    have h3 := upto_at (es := es) (t := t) (Nat.lt_of_lt_of_le h1 (upto_le es s))
    omega
  · exact h1
theorem atL_later {es : List Ev} (h : All first es) {s t : Int} (hst : s ≤ t) : Later (atL es s) (atL es t) := lnK_later h (upto_mono es hst)
/-- the index of the line at a time -/
theorem upto_iff {es : List Ev} (h : All first es) {k : Nat} (hk : k ≤ es.length) {t : Int} (h0 : 0 ≤ t) : k = upto es t ↔ (lnK es k).t ≤ t ∧ ∀ hi : k < es.length, t < es[k].a := by
  constructor
  · rintro rfl
    refine ⟨?_, fun hi => upto_at hi⟩
    by_cases hz : upto es t = 0
    · rw [hz, lnK_0]; exact h0
    · obtain ⟨j, hj⟩ := Nat.exists_eq_succ_of_ne_zero hz
      have hjl : j < es.length := by have := upto_le es t; omega
      rw [hj, Nat.succ_eq_add_one, lnK_t hjl]
      exact upto_lt (by omega)
  · rintro ⟨h1, h2⟩
    refine upto_uniq hk (fun i hi => ?_) h2
    obtain ⟨j, rfl⟩ := Nat.exists_eq_succ_of_ne_zero (show k ≠ 0 by omega)
    have := all_sorted h (i := i) (j := j) (by omega) (by omega)
    rw [Nat.succ_eq_add_one, lnK_t (by omega)] at h1
    omega
/-- LifeOne: between two events nothing changes -/
theorem atL_between {es : List Ev} (h : All first es) {t t' : Int} (h0 : 0 ≤ t') (h1 : (atL es t).t ≤ t') (h2 : ∀ hi : upto es t < es.length, t' < es[upto es t].a) : atL es t' = atL es t := by
  have := (upto_iff h (upto_le es t) h0).2 ⟨h1, h2⟩
  rw [atL_eq, atL_eq, this]
theorem take_upto {es : List Ev} (h : All first es) (t : Int) {s : Int} (hs : 0 ≤ s) (hst : s ≤ t) : atL (es.take (upto es t)) s = atL es s := by
  have hm := upto_mono es hst
  have hle := upto_le es t
  have hle2 := upto_le es s
  have hu : upto es s = upto (es.take (upto es t)) s := by
    refine (upto_iff (all_take h _) (by simp; omega) hs).2 ⟨?_, fun hi => ?_⟩
    · have e : lnK (es.take (upto es t)) (upto es s) = lnK es (upto es s) := by unfold lnK; rw [List.take_take, Nat.min_eq_left hm]
      rw [e]; exact ((upto_iff h hle2 hs).1 rfl).1
    · rw [List.getElem_take]
      exact ((upto_iff h hle2 hs).1 rfl).2 (by simp at hi; omega)
  rw [atL_eq, atL_eq, ← hu]
  unfold lnK; rw [List.take_take, Nat.min_eq_left hm]
theorem life_ev {es : List Ev} (h : All first es) {i : Nat} (hi : i < es.length) : 0 ≤ es[i].a ∧ es[i].a ≤ 10000000 := by
  have := all_frm h es[i] (List.getElem_mem hi)
  exact ⟨this.2.2.1, this.2.2.2.1⟩

/-- LifeMail: what fates say -/
theorem fate_gone {a b : Ln} {m : Int} (hl : Later a b) (hm : m ≤ a.e) (h : a.s = 0 ∨ a.e ≠ m) : b.s = 0 ∨ b.e ≠ m := by
  obtain ⟨h1, h2, h3, h4⟩ := hl
  rcases h with h | h
  · by_cases he : b.e = m
    · exact .inl (h2 (by omega) h)
    · exact .inr he
  · right; omega
theorem fate_holder {a b : Ln} (hl : Later a b) (he : b.e = a.e) (hs : b.s ≠ 0) : b.h = a.h := hl.2.2.1 he hs

/-- LifeEpochs: epochs grow by assigning and passing alone -/
def many (es : List Ev) : Nat := (es.filter fun e => decide (e.k = 1 ∨ e.k = 2)).length
theorem many_snoc (es : List Ev) (e : Ev) : many (es ++ [e]) = many es + if e.k = 1 ∨ e.k = 2 then 1 else 0 := by
  unfold many; rw [List.filter_append, List.length_append]
  by_cases h : e.k = 1 ∨ e.k = 2 <;> simp [h]
theorem fin_many {l : Ln} {es : List Ev} (h : All l es) : (fin l es).e = l.e + many es := by
  induction es generalizing l with
  | nil => simp [fin, many]
  | cons e es ih =>
    have := ih h.2
    show (fin (nxt l e) es).e = _
    rw [this]
    have hm : many (e :: es) = many es + if e.k = 1 ∨ e.k = 2 then 1 else 0 := by
      unfold many; by_cases hh : e.k = 1 ∨ e.k = 2 <;> simp [hh]
    rw [hm]
    unfold nxt
    by_cases hh : e.k = 1 ∨ e.k = 2
    · simp only [if_pos hh]; omega
    · simp only [if_neg hh]; split; · simp
      split; · simp
      split <;> simp

/-- LifeQuarantine: without passing, a new epoch begins after a quarantine -/
theorem quar {l : Ln} {es : List Ev} {T e0 : Int} (h : All l es) (hT : ∀ e ∈ es, T ≤ e.a) (hn : ∀ e ∈ es, e.k ≠ 2)
    (hl : (l.e = e0 ∧ (l.s = 1 ∨ l.s = 2 ∨ (l.s = 3 ∧ T ≤ l.t) ∨ (l.s = 0 ∧ T + 2592000 ≤ l.t))) ∨ T + 2592000 ≤ l.t) :
    ((fin l es).e = e0 ∧ ((fin l es).s = 1 ∨ (fin l es).s = 2 ∨ ((fin l es).s = 3 ∧ T ≤ (fin l es).t) ∨ ((fin l es).s = 0 ∧ T + 2592000 ≤ (fin l es).t))) ∨ T + 2592000 ≤ (fin l es).t := by
  induction es generalizing l with
  | nil => exact hl
  | cons e es ih =>
    refine ih h.2 (fun x hx => hT x (List.mem_cons_of_mem _ hx)) (fun x hx => hn x (List.mem_cons_of_mem _ hx)) ?_
    have ha := hT e (List.mem_cons_self ..)
    have hk := hn e (List.mem_cons_self ..)
    obtain ⟨hv, hf, p1, p2⟩ := h.1
    have ht := nxt_t l e
    rcases hl with ⟨h1, h2⟩ | h2
    · by_cases k1 : e.k = 1
      · right; omega
      · have hne : ¬ (e.k = 1 ∨ e.k = 2) := by omega
        have he : (nxt l e).e = l.e := by unfold nxt; rw [if_neg hne]; split; rfl; split; rfl; split <;> rfl
        rw [he, ht]
        by_cases k3 : e.k = 3
        · have : (nxt l e).s = 2 := by unfold nxt; rw [if_neg hne, if_pos k3]
          left; exact ⟨h1, by omega⟩
        by_cases k4 : e.k = 4 ∨ e.k = 6
        · have : (nxt l e).s = 1 := by unfold nxt; rw [if_neg hne, if_neg k3, if_pos k4]
          left; exact ⟨h1, by omega⟩
        by_cases k5 : e.k = 5
        · have : (nxt l e).s = 3 := by unfold nxt; rw [if_neg hne, if_neg k3, if_neg k4, if_pos k5]
          left; exact ⟨h1, by omega⟩
        · have : (nxt l e).s = 0 := by unfold nxt; rw [if_neg hne, if_neg k3, if_neg k4, if_neg k5]
          left; exact ⟨h1, by omega⟩
    · right; omega
end Go.Dial.Lif
