/-
  Plain laws of lives: a life that comes later; a number that is taken back.
-/
import Derived.Test.YteilkigdlkeiaaaLifS
namespace Go.Dial.Lif

/-- an event, a line that come later -/
def mv (d : Int) (e : Ev) : Ev := ⟨e.k, e.a + d, e.h⟩
def mvL (d : Int) (l : Ln) : Ln := if 0 < l.e then ⟨l.s, l.h, l.e, l.t + d⟩ else l
theorem mvL_first (d : Int) : mvL d first = first := rfl
theorem nxt_12 {l : Ln} {e : Ev} (h : e.k = 1 ∨ e.k = 2) : nxt l e = ⟨1, e.h, l.e + 1, e.a⟩ := if_pos h
theorem nxt_3 {l : Ln} {e : Ev} (h : e.k = 3) : nxt l e = ⟨2, l.h, l.e, e.a⟩ := by unfold nxt; rw [if_neg (by omega), if_pos h]
theorem nxt_46 {l : Ln} {e : Ev} (h : e.k = 4 ∨ e.k = 6) : nxt l e = ⟨1, l.h, l.e, e.a⟩ := by unfold nxt; rw [if_neg (by omega), if_neg (by omega), if_pos h]
theorem nxt_5 {l : Ln} {e : Ev} (h : e.k = 5) : nxt l e = ⟨3, l.h, l.e, e.a⟩ := by unfold nxt; rw [if_neg (by omega), if_neg (by omega), if_neg (by omega), if_pos h]
theorem nxt_7 {l : Ln} {e : Ev} (h1 : ¬ (e.k = 1 ∨ e.k = 2)) (h2 : ¬ e.k = 3) (h3 : ¬ (e.k = 4 ∨ e.k = 6)) (h4 : ¬ e.k = 5) : nxt l e = ⟨0, -1, l.e, e.a⟩ := by unfold nxt; rw [if_neg h1, if_neg h2, if_neg h3, if_neg h4]
theorem mv_ok {d : Int} {l : Ln} {e : Ev} (hd : 0 ≤ d) (hr : l.e = 0 → l = first) (he : e.a + d ≤ 10000000) (h : Ok l e) : Ok (mvL d l) (mv d e) ∧ nxt (mvL d l) (mv d e) = mvL d (nxt l e) ∧ ((nxt l e).e = 0 → nxt l e = first) := by
  obtain ⟨⟨v1, v2, v3, v4, v5, v6, v7, v8⟩, ⟨f1, f2, f3, f4, f5, f6⟩, p1, p2⟩ := h
  by_cases h0 : l.e = 0
  · have hl := hr h0
    subst hl
    have k1 : e.k = 1 := by simp [first] at p2; omega
    have f7 := f5 (.inl k1)
    have hn : nxt first e = ⟨1, e.h, 1, e.a⟩ := by unfold nxt; rw [if_pos (.inl k1)]; rfl
    refine ⟨⟨vld_first, ⟨f1, f2, by simp only [mv]; omega, he, f5, f6⟩, by simp only [mv, mvL_first]; simp only [first] at p1 ⊢; omega, .inl ⟨k1, rfl, show (0 : Int) < 1000 by decide⟩⟩, ?_, ?_⟩
    · rw [hn, mvL_first]; unfold nxt; rw [if_pos (.inl k1)]; rfl
    · rw [hn]; intro h; cases h
  · have hp : 0 < l.e := by omega
    have hm : mvL d l = ⟨l.s, l.h, l.e, l.t + d⟩ := if_pos hp
    have hne : 0 < (nxt l e).e := by
      unfold nxt; split; · simp only; omega
      split; · exact hp
      split; · exact hp
      split <;> exact hp
    refine ⟨?_, ?_, fun h => absurd h (by omega)⟩
    · rw [hm]
      refine ⟨⟨v1, v2, v3, v4, by simp only; omega, by simp only; omega, v7, v8⟩, ⟨f1, f2, by simp only [mv]; omega, he, f5, f6⟩, by simp only [mv]; omega, ?_⟩
      rcases p2 with p | p | p | p | p | p | p
      · exact .inl p
      · exact .inr (.inl p)
      · exact .inr (.inr (.inl p))
      · exact .inr (.inr (.inr (.inl p)))
      · exact .inr (.inr (.inr (.inr (.inl p))))
      · exact .inr (.inr (.inr (.inr (.inr (.inl p)))))
      · exact .inr (.inr (.inr (.inr (.inr (.inr ⟨p.1, p.2.1, by simp only [mv]; omega⟩)))))
    · rw [hm, mvL, if_pos hne]
      by_cases c1 : e.k = 1 ∨ e.k = 2
      · rw [nxt_12 c1, nxt_12 (e := mv d e) c1]; rfl
      by_cases c2 : e.k = 3
      · rw [nxt_3 c2, nxt_3 (e := mv d e) c2]; rfl
      by_cases c3 : e.k = 4 ∨ e.k = 6
      · rw [nxt_46 c3, nxt_46 (e := mv d e) c3]; rfl
      by_cases c4 : e.k = 5
      · rw [nxt_5 c4, nxt_5 (e := mv d e) c4]; rfl
      · rw [nxt_7 c1 c2 c3 c4, nxt_7 (e := mv d e) c1 c2 c3 c4]; rfl
theorem mv_all {d : Int} (hd : 0 ≤ d) : ∀ {l : Ln} {es : List Ev}, (l.e = 0 → l = first) → (∀ e ∈ es, e.a + d ≤ 10000000) → All l es → All (mvL d l) (es.map (mv d)) ∧ fin (mvL d l) (es.map (mv d)) = mvL d (fin l es)
  | l, [], _, _, _ => ⟨trivial, rfl⟩
  | l, e :: es, hr, hb, h => by
    obtain ⟨h1, h2, h3⟩ := mv_ok hd hr (hb e (List.mem_cons_self ..)) h.1
    have ih := mv_all (es := es) hd h3 (fun x hx => hb x (List.mem_cons_of_mem _ hx)) h.2
    rw [← h2] at ih
    exact ⟨⟨h1, ih.1⟩, ih.2⟩
theorem mv_upto (d t : Int) (es : List Ev) : upto (es.map (mv d)) (t + d) = upto es t := by
  unfold upto
  induction es with
  | nil => rfl
  | cons e es ih =>
    simp only [List.map_cons, List.takeWhile_cons]
    have : decide ((mv d e).a ≤ t + d) = decide (e.a ≤ t) := by rw [Bool.eq_iff_iff]; simp [mv]
    rw [this]
    by_cases h : decide (e.a ≤ t) = true
    · rw [if_pos h, if_pos h, List.length_cons, List.length_cons, ih]
    · rw [if_neg h, if_neg h]
theorem mv_at {d t : Int} {es : List Ev} (hd : 0 ≤ d) (h : Life es) (hb : ∀ e ∈ es, e.a + d ≤ 10000000) (h0 : 0 ≤ t) (h1 : t + d ≤ 10000000) : atR (es.map (mv d)) (t + d) = (mvL d (atL es t), 0) := by
  have hall := (mv_all hd (l := first) (fun _ => rfl) hb h.1)
  have hl : Life (es.map (mv d)) := ⟨hall.1, by have := h.2; simpa using this⟩
  rw [atR, if_pos ⟨hl, by omega, h1⟩, atL, mv_upto, ← List.map_take]
  have := (mv_all hd (l := first) (es := es.take (upto es t)) (fun _ => rfl) (fun e he => hb e (List.mem_of_mem_take he)) (all_take h.1 _)).2
  rw [mvL_first] at this
  rw [this]; rfl

theorem runR_stop {es : List Ev} {x : Ev} {r : List Ev} (h : All first es) (hl : es.length ≤ 40) (hr : (es ++ x :: r).length ≤ 40) (hx : ¬ Ok (fin first es) x) : runR (es ++ x :: r) = ((zero, es.length), 140) := by
  have hno : ¬ Life (es ++ x :: r) := fun h2 => hx ((all_app.1 h2.1).2.1)
  rw [runR_no hno, List.take_of_length_le hr, runF_app h]
  have : runF (fin first es) (x :: r) = (fin first es, 0) := by rw [runF, if_neg hx]
  rw [this]; rfl
theorem frm_plain {k a : Int} (h1 : 3 ≤ k) (h2 : k ≤ 7) (h3 : 0 ≤ a) (h4 : a ≤ 10000000) : Frm ⟨k, a, -1⟩ :=
  ⟨by simp only; omega, h2, h3, h4, fun h => by unfold Named at h; simp only at h; omega, fun _ => rfl⟩
theorem ok_end {l : Ln} {a : Int} (hv : Vld l) (hu : Used l) (h1 : l.t ≤ a) (h2 : a ≤ 10000000) : Ok l ⟨5, a, -1⟩ ∧ nxt l ⟨5, a, -1⟩ = ⟨3, l.h, l.e, a⟩ := by
  have h0 := hv.2.2.2.2.1
  refine ⟨⟨hv, frm_plain (by decide) (by decide) (by omega) h2, h1, ?_⟩, rfl⟩
  exact .inr (.inr (.inr (.inr (.inl ⟨rfl, hu⟩))))
theorem no_end {l : Ln} {a : Int} (hu : ¬ Used l) : ¬ Ok l ⟨5, a, -1⟩ := fun h => by
  have := h.2.2.2
  unfold Used at hu
  simp at this
  omega
theorem ok_restore {l : Ln} {a : Int} (hv : Vld l) (hu : l.s = 3) (h1 : l.t ≤ a) (h2 : a ≤ 10000000) : Ok l ⟨6, a, -1⟩ ∧ nxt l ⟨6, a, -1⟩ = ⟨1, l.h, l.e, a⟩ := by
  have h0 := hv.2.2.2.2.1
  refine ⟨⟨hv, frm_plain (by decide) (by decide) (by omega) h2, h1, ?_⟩, rfl⟩
  exact .inr (.inr (.inr (.inr (.inr (.inl ⟨rfl, hu⟩)))))
theorem no_restore {l : Ln} {a : Int} (hu : l.s ≠ 3) : ¬ Ok l ⟨6, a, -1⟩ := fun h => by
  have := h.2.2.2
  simp at this
  omega
theorem ok_expire {l : Ln} {a : Int} (hv : Vld l) (hu : l.s = 3) (h1 : l.t + 2592000 ≤ a) (h2 : a ≤ 10000000) : Ok l ⟨7, a, -1⟩ ∧ nxt l ⟨7, a, -1⟩ = ⟨0, -1, l.e, a⟩ := by
  have h0 := hv.2.2.2.2.1
  refine ⟨⟨hv, frm_plain (by decide) (by decide) (by omega) h2, by simp only; omega, ?_⟩, rfl⟩
  exact .inr (.inr (.inr (.inr (.inr (.inr ⟨rfl, hu, h1⟩)))))
/-- LifeRestores: the contract ends, the last holder takes the number back -/
theorem restores {es : List Ev} (h : All first es) (hl : es.length ≤ 38) {a b : Int} (hu : Used (fin first es)) (h1 : (fin first es).t ≤ a) (h2 : a ≤ b) (h3 : b ≤ 10000000) :
    Life (es ++ [⟨5, a, -1⟩, ⟨6, b, -1⟩]) ∧ fin first (es ++ [⟨5, a, -1⟩, ⟨6, b, -1⟩]) = ⟨1, (fin first es).h, (fin first es).e, b⟩ := by
  have hv := all_vld vld_first h
  obtain ⟨e1, e2⟩ := ok_end hv hu h1 (by omega)
  have v2 := nxt_vld e1
  rw [e2] at v2
  obtain ⟨r1, r2⟩ := ok_restore v2 rfl h2 h3
  rw [e2.symm] at r1 r2
  refine ⟨⟨all_app.2 ⟨h, e1, r1, trivial⟩, by simp; omega⟩, ?_⟩
  rw [fin_app]
  show nxt (nxt (fin first es) ⟨5, a, -1⟩) ⟨6, b, -1⟩ = _
  rw [r2, e2]
theorem expires {es : List Ev} (h : All first es) (hl : es.length ≤ 37) {a : Int} (hu : Used (fin first es)) (h1 : (fin first es).t ≤ a) (h3 : a + 2592000 ≤ 10000000) :
    Life (es ++ [⟨5, a, -1⟩, ⟨7, a + 2592000, -1⟩]) ∧ runR ((es ++ [⟨5, a, -1⟩, ⟨7, a + 2592000, -1⟩]) ++ [⟨6, a + 2592000, -1⟩]) = ((zero, es.length + 2), 140) := by
  have hv := all_vld vld_first h
  obtain ⟨e1, e2⟩ := ok_end hv hu h1 (by omega)
  have v2 := nxt_vld e1
  rw [e2] at v2
  obtain ⟨r1, r2⟩ := ok_expire (a := a + 2592000) v2 rfl (Int.le_refl _) h3
  rw [e2.symm] at r1 r2
  have hA : All first (es ++ [⟨5, a, -1⟩, ⟨7, a + 2592000, -1⟩]) := all_app.2 ⟨h, e1, r1, trivial⟩
  refine ⟨⟨hA, by simp; omega⟩, ?_⟩
  rw [runR_stop hA (by simp; omega) (by simp; omega)]
  · simp
  · rw [fin_app]
    show ¬ Ok (nxt (nxt (fin first es) ⟨5, a, -1⟩) ⟨7, a + 2592000, -1⟩) _
    rw [r2]
    exact no_restore (show (0 : Int) ≠ 3 by decide)
theorem upto_app {es r : List Ev} {x : Ev} {t : Int} (h : t < x.a) : upto (es ++ x :: r) t = upto es t := by
  refine (upto_uniq (by have := upto_le es t; simp; omega) (fun i hi => ?_) (fun hi => ?_)).symm
  · have := upto_le es t
    rw [List.getElem_append_left (by omega)]
    exact upto_lt hi
  · by_cases h1 : upto es t < es.length
    · rw [List.getElem_append_left h1]; exact upto_at h1
    · have : upto es t = es.length := by have := upto_le es t; omega
      simp [this, h]
theorem atL_app {es r : List Ev} {x : Ev} {t : Int} (h : t < x.a) : atL (es ++ x :: r) t = atL es t := by
  unfold atL
  rw [upto_app h, List.take_append_of_le_length (upto_le _ _)]
theorem atL_end {es : List Ev} {t : Int} (h : ∀ e ∈ es, e.a ≤ t) : atL es t = fin first es := by
  have : upto es t = es.length := by
    refine (upto_uniq (Nat.le_refl _) (fun i hi => h _ (List.getElem_mem hi)) (fun hi => absurd hi (by omega))).symm
  unfold atL
  rw [this, List.take_length]
theorem all_le_fin {l : Ln} {es : List Ev} (h : All l es) : ∀ e ∈ es, e.a ≤ (fin l es).t := by
  induction es generalizing l with
  | nil => intro e he; cases he
  | cons x es ih =>
    intro e he
    rcases List.mem_cons.1 he with rfl | he
    · have := (all_later h.2).2.2.2
      rw [nxt_t] at this
      exact this
    · exact ih h.2 e he
/-- the fate of mail when the number was taken back -/
theorem restore_fate {es : List Ev} (h : All first es) (hl : es.length ≤ 38) {a b ma : Int} (hu : Used (fin first es)) (h1 : (fin first es).t ≤ a) (h2 : a ≤ b) (h3 : b ≤ 10000000) (hk : OkKeep es ma) (he : (atL es ma).e = (fin first es).e) (hb : ma ≤ b) :
    fateR (es ++ [⟨5, a, -1⟩, ⟨6, b, -1⟩]) (fin first es).e ma b = ((1, (fin first es).h), 0) ∨ (fateR (es ++ [⟨5, a, -1⟩, ⟨6, b, -1⟩]) (fin first es).e ma b = ((0, 0), 140) ∧ a ≤ ma) := by
  obtain ⟨r1, r2⟩ := restores h hl hu h1 h2 h3
  have hf : ∀ e ∈ es ++ [⟨5, a, -1⟩, ⟨6, b, -1⟩], e.a ≤ b := fun e he => by
    have := all_le_fin r1.1 e he
    rw [r2] at this; exact this
  by_cases ho : OkFate (es ++ [⟨5, a, -1⟩, ⟨6, b, -1⟩]) (fin first es).e ma b
  · left
    rw [fateR, if_pos ho, atL_end hf, r2, fateV, if_neg (by simp), if_pos rfl]
  · right
    refine ⟨by rw [fateR, if_neg ho], ?_⟩
    rcases Int.lt_or_le ma a with h4 | h4
    · exfalso
      refine ho ⟨⟨⟨r1, hk.1.2.1, hk.1.2.2⟩, ?_⟩, ?_, hb, h3⟩
      · rw [atL_app h4]; exact hk.2
      · rw [atL_app h4]; exact he
    · exact h4
end Go.Dial.Lif
