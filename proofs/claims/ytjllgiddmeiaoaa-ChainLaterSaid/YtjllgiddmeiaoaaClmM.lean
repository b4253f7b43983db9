/-
  Plain mathematics of claims: rules, claims, events, statuses, the timeline.
-/
import Derived.Lib.Hide
set_option linter.unusedVariables false
set_option linter.unusedSimpArgs false
namespace Go.Dial.Clm
structure Rl where
  a : Int
  c : Int
  s : Int
  r : Int
deriving DecidableEq
structure Cl where
  n : Int
  f : Int
  t : Int
  h : Int
  a : Int
  b : Bool
deriving DecidableEq
structure Ce where
  k : Int
  a : Int
  r : Int
deriving DecidableEq
structure Cs where
  s : Int
  f : Int
  n : Int
deriving DecidableEq
def RlV (r : Rl) : Prop := 1 ≤ r.a ∧ r.a ≤ 1000000 ∧ 1 ≤ r.c ∧ r.c ≤ 1000000 ∧ 1 ≤ r.s ∧ r.s ≤ 1000000 ∧ 1 ≤ r.r ∧ r.r ≤ 1000000
instance (r : Rl) : Decidable (RlV r) := by unfold RlV; infer_instance
def ClV (c : Cl) : Prop := 0 ≤ c.n ∧ c.n ≤ 99999999 ∧ 0 ≤ c.f ∧ c.f ≤ 7 ∧ 0 ≤ c.t ∧ c.t ≤ 7 ∧ c.f ≠ c.t ∧ 0 ≤ c.h ∧ c.h ≤ 63 ∧ 0 ≤ c.a ∧ c.a ≤ 10000000
instance (c : Cl) : Decidable (ClV c) := by unfold ClV; infer_instance
def CeV (last : Int) (e : Ce) : Prop := 1 ≤ e.k ∧ e.k ≤ 6 ∧ last ≤ e.a ∧ e.a ≤ 20000000 ∧ (e.k = 2 ∨ e.k = 6 → 1 ≤ e.r ∧ e.r ≤ 9) ∧ (¬ (e.k = 2 ∨ e.k = 6) → e.r = 0)
instance (last : Int) (e : Ce) : Decidable (CeV last e) := by unfold CeV; infer_instance
def EvV : Int → List Ce → Prop
  | _, [] => True
  | last, e :: es => CeV last e ∧ EvV e.a es
instance EvV.dec : (last : Int) → (es : List Ce) → Decidable (EvV last es)
  | _, [] => .isTrue trivial
  | last, e :: es => by
    have := EvV.dec e.a es
    unfold EvV
    infer_instance
def ClmV (r : Rl) (c : Cl) (es : List Ce) : Prop := RlV r ∧ ClV c ∧ es.length ≤ 20 ∧ EvV c.a es
instance (r : Rl) (c : Cl) (es : List Ce) : Decidable (ClmV r c es) := by unfold ClmV; infer_instance
def dur (r : Rl) (s : Int) : Int := if s = 1 then r.a else if s = 2 then r.s else if s = 3 then r.c else r.r
def st (r : Rl) (s f : Int) : Cs := ⟨s, f, if 1 ≤ s ∧ s ≤ 4 then f + dur r s else -1⟩
def aft (s : Int) : Int := if s = 3 then 4 else if s = 4 then 5 else 3
def bec (b : Bool) (s : Int) (e : Ce) : Int :=
  if e.k = 1 then (if s = 1 then 3 else -1)
  else if e.k = 2 then (if s = 1 then (if e.r = 1 then (if b then -1 else 6) else 2) else -1)
  else if e.k = 3 then (if s = 2 then 3 else -1)
  else if e.k = 4 then (if s = 2 then 6 else -1)
  else if e.k = 5 then (if s = 1 ∨ s = 2 ∨ s = 3 then 7 else -1)
  else if e.k = 6 then (if s = 4 then (if e.r = 1 ∧ b then -1 else 8) else -1)
  else -1
def act (x : Cs) : Prop := 1 ≤ x.s ∧ x.s ≤ 4
instance (x : Cs) : Decidable (act x) := by unfold act; infer_instance
def rk (s : Int) : Nat := if s = 1 ∨ s = 2 then 3 else if s = 3 then 2 else if s = 4 then 1 else 0
theorem rk_le (s : Int) : rk s ≤ 3 := by unfold rk; split; omega; split; omega; split <;> omega
theorem rk_aft {s : Int} (h : 1 ≤ s ∧ s ≤ 4) : rk (aft s) < rk s := by
  have : s = 1 ∨ s = 2 ∨ s = 3 ∨ s = 4 := by omega
  rcases this with rfl | rfl | rfl | rfl <;> decide
/-- the statuses behind one -/
def tl (r : Rl) (b : Bool) : Cs → List Ce → List Cs
  | now, e :: es => if h : act now ∧ now.n ≤ e.a then st r (aft now.s) now.n :: tl r b (st r (aft now.s) now.n) (e :: es)
      else if bec b now.s e < 0 then tl r b now es else st r (bec b now.s e) e.a :: tl r b (st r (bec b now.s e) e.a) es
  | now, [] => if h : act now then st r (aft now.s) now.n :: tl r b (st r (aft now.s) now.n) [] else []
termination_by now es => 5 * es.length + rk now.s
decreasing_by
  · have := rk_aft h.1
    simp only [st]; omega
  · have := rk_le now.s
    simp only [List.length_cons]; omega
  · have := rk_le (st r (bec b now.s e) e.a).s
    simp only [List.length_cons]; omega
  · have := rk_aft h
    simp only [st]; omega
theorem tl_auto {r : Rl} {b : Bool} {now : Cs} {e : Ce} {es : List Ce} (h : act now ∧ now.n ≤ e.a) : tl r b now (e :: es) = st r (aft now.s) now.n :: tl r b (st r (aft now.s) now.n) (e :: es) := by
  rw [tl, dif_pos h]
theorem tl_void {r : Rl} {b : Bool} {now : Cs} {e : Ce} {es : List Ce} (h : ¬ (act now ∧ now.n ≤ e.a)) (hb : bec b now.s e < 0) : tl r b now (e :: es) = tl r b now es := by
  rw [tl, dif_neg h, if_pos hb]
theorem tl_ev {r : Rl} {b : Bool} {now : Cs} {e : Ce} {es : List Ce} (h : ¬ (act now ∧ now.n ≤ e.a)) (hb : ¬ bec b now.s e < 0) : tl r b now (e :: es) = st r (bec b now.s e) e.a :: tl r b (st r (bec b now.s e) e.a) es := by
  rw [tl, dif_neg h, if_neg hb]
theorem tl_end {r : Rl} {b : Bool} {now : Cs} (h : act now) : tl r b now [] = st r (aft now.s) now.n :: tl r b (st r (aft now.s) now.n) [] := by
  rw [tl, dif_pos h]
theorem tl_nil {r : Rl} {b : Bool} {now : Cs} (h : ¬ act now) : tl r b now [] = [] := by
  rw [tl, dif_neg h]
/-- a property of all statuses behind one -/
theorem tl_all {r : Rl} {b : Bool} (P : Cs → Prop) (A : Cs → List Ce → Prop)
    (h1 : ∀ now e es, A now (e :: es) → act now → now.n ≤ e.a → P (st r (aft now.s) now.n) ∧ A (st r (aft now.s) now.n) (e :: es))
    (h2 : ∀ now e es, A now (e :: es) → ¬ (act now ∧ now.n ≤ e.a) → bec b now.s e < 0 → A now es)
    (h3 : ∀ now e es, A now (e :: es) → ¬ (act now ∧ now.n ≤ e.a) → ¬ bec b now.s e < 0 → P (st r (bec b now.s e) e.a) ∧ A (st r (bec b now.s e) e.a) es)
    (h4 : ∀ now, A now [] → act now → P (st r (aft now.s) now.n) ∧ A (st r (aft now.s) now.n) []) : ∀ (m : Nat) now es, 5 * es.length + rk now.s ≤ m → A now es → ∀ x ∈ tl r b now es, P x := by
  intro m
  induction m with
  | zero =>
    intro now es hm hA x hx
    have he : es = [] := by
      cases es with
      | nil => rfl
      | cons e es => simp at hm
    subst he
    by_cases ha : act now
    · have := rk_aft ha; omega
    · rw [tl_nil ha] at hx; cases hx
  | succ m ih =>
    intro now es hm hA x hx
    cases es with
    | nil =>
      by_cases ha : act now
      · rw [tl_end ha] at hx
        obtain ⟨p, q⟩ := h4 now hA ha
        rcases List.mem_cons.1 hx with rfl | hx
        · exact p
        · exact ih _ _ (by have := rk_aft ha; simp only [st]; omega) q x hx
      · rw [tl_nil ha] at hx; cases hx
    | cons e es =>
      by_cases ha : act now ∧ now.n ≤ e.a
      · rw [tl_auto ha] at hx
        obtain ⟨p, q⟩ := h1 now e es hA ha.1 ha.2
        rcases List.mem_cons.1 hx with rfl | hx
        · exact p
        · exact ih _ _ (by have := rk_aft ha.1; simp only [st]; omega) q x hx
      · by_cases hb : bec b now.s e < 0
        · rw [tl_void ha hb] at hx
          exact ih _ _ (by simp only [List.length_cons] at hm; have := rk_le now.s; omega) (h2 now e es hA ha hb) x hx
        · rw [tl_ev ha hb] at hx
          obtain ⟨p, q⟩ := h3 now e es hA ha hb
          rcases List.mem_cons.1 hx with rfl | hx
          · exact p
          · exact ih _ _ (by simp only [List.length_cons] at hm; have := rk_le (st r (bec b now.s e) e.a).s; omega) q x hx
theorem tl_len {r : Rl} {b : Bool} : ∀ (m : Nat) now es, 5 * es.length + rk now.s ≤ m → (tl r b now es).length ≤ 5 * es.length + rk now.s := by
  intro m
  induction m with
  | zero =>
    intro now es hm
    have he : es = [] := by
      cases es with
      | nil => rfl
      | cons e es => simp at hm
    subst he
    by_cases ha : act now
    · have := rk_aft ha; omega
    · rw [tl_nil ha]; simp
  | succ m ih =>
    intro now es hm
    cases es with
    | nil =>
      by_cases ha : act now
      · rw [tl_end ha]
        have h1 := rk_aft ha
        have := ih (st r (aft now.s) now.n) [] (by simp only [st]; omega)
        simp only [st, List.length_cons, List.length_nil] at this ⊢; omega
      · rw [tl_nil ha]; simp
    | cons e es =>
      by_cases ha : act now ∧ now.n ≤ e.a
      · rw [tl_auto ha]
        have h1 := rk_aft ha.1
        have := ih (st r (aft now.s) now.n) (e :: es) (by simp only [st]; omega)
        simp only [st, List.length_cons] at this ⊢; omega
      · by_cases hb : bec b now.s e < 0
        · rw [tl_void ha hb]
          simp only [List.length_cons] at hm ⊢
          have h1 := rk_le now.s
          have := ih now es (by omega)
          omega
        · rw [tl_ev ha hb]
          simp only [List.length_cons] at hm ⊢
          have h1 := rk_le (st r (bec b now.s e) e.a).s
          have := ih (st r (bec b now.s e) e.a) es (by omega)
          omega
theorem evV_mono {l m : Int} {es : List Ce} (h : EvV l es) (hm : m ≤ l) : EvV m es := by
  cases es with
  | nil => trivial
  | cons e es => exact ⟨⟨h.1.1, h.1.2.1, by have := h.1.2.2.1; omega, h.1.2.2.2⟩, h.2⟩
theorem evV_ge {l : Int} {es : List Ce} (h : EvV l es) : ∀ e ∈ es, l ≤ e.a ∧ e.a ≤ 20000000 := by
  induction es generalizing l with
  | nil => intro e he; cases he
  | cons x es ih =>
    intro e he
    rcases List.mem_cons.1 he with rfl | he
    · exact ⟨h.1.2.2.1, h.1.2.2.2.1⟩
    · have := ih h.2 e he
      have := h.1.2.2.1
      omega
theorem dur_bd {r : Rl} (h : RlV r) (s : Int) : 1 ≤ dur r s ∧ dur r s ≤ 1000000 := by
  unfold RlV at h; unfold dur; split; omega; split; omega; split <;> omega
theorem st_n {r : Rl} (h : RlV r) {s f : Int} (ha : 1 ≤ s ∧ s ≤ 4) : f < (st r s f).n ∧ (st r s f).n ≤ f + 1000000 := by
  have := dur_bd h s
  simp only [st]; rw [if_pos ha]; omega
/-- all statuses behind one begin at m or later -/
theorem tl_ge {r : Rl} (hr : RlV r) {b : Bool} {now : Cs} {es : List Ce} {m : Int} (h1 : act now → m ≤ now.n) (h2 : ∀ e ∈ es, m ≤ e.a) : ∀ x ∈ tl r b now es, m ≤ x.f := by
  refine tl_all (r := r) (b := b) (fun x => m ≤ x.f) (fun now es => (act now → m ≤ now.n) ∧ ∀ e ∈ es, m ≤ e.a) ?_ ?_ ?_ ?_ _ now es (Nat.le_refl _) ⟨h1, h2⟩
  · intro now e es ⟨g1, g2⟩ ha hle
    exact ⟨g1 ha, fun hx => by have := st_n hr (s := aft now.s) (f := now.n) hx; have := g1 ha; omega, g2⟩
  · intro now e es ⟨g1, g2⟩ _ _
    exact ⟨g1, fun x hx => g2 x (List.mem_cons_of_mem _ hx)⟩
  · intro now e es ⟨g1, g2⟩ _ _
    have := g2 e (List.mem_cons_self ..)
    exact ⟨this, fun hx => by have := st_n hr (s := bec b now.s e) (f := e.a) hx; omega, fun x hx => g2 x (List.mem_cons_of_mem _ hx)⟩
  · intro now ⟨g1, g2⟩ ha
    exact ⟨g1 ha, fun hx => by have := st_n hr (s := aft now.s) (f := now.n) hx; have := g1 ha; omega, g2⟩
/-- and not too late -/
theorem tl_le {r : Rl} (hr : RlV r) {b : Bool} {now : Cs} {es : List Ce} (h1 : now.f + 1000000 * rk now.s ≤ 23000000) (h0 : act now → now.n ≤ now.f + 1000000) (h2 : ∀ e ∈ es, e.a ≤ 20000000) : ∀ x ∈ tl r b now es, x.f ≤ 23000000 := by
  refine tl_all (r := r) (b := b) (fun x => x.f ≤ 23000000) (fun now es => now.f + 1000000 * rk now.s ≤ 23000000 ∧ (act now → now.n ≤ now.f + 1000000) ∧ ∀ e ∈ es, e.a ≤ 20000000) ?_ ?_ ?_ ?_ _ now es (Nat.le_refl _) ⟨h1, h0, h2⟩
  · intro now e es ⟨g1, g0, g2⟩ ha hle
    have k1 := rk_aft ha
    have k2 := g0 ha
    refine ⟨?_, ?_, fun hx => (st_n hr hx).2, g2⟩
    · simp only [st]; omega
    · simp only [st]; omega
  · intro now e es ⟨g1, g0, g2⟩ _ _
    exact ⟨g1, g0, fun x hx => g2 x (List.mem_cons_of_mem _ hx)⟩
  · intro now e es ⟨g1, g0, g2⟩ _ _
    have k1 := g2 e (List.mem_cons_self ..)
    have k2 := rk_le (st r (bec b now.s e) e.a).s
    refine ⟨?_, ?_, fun hx => (st_n hr hx).2, fun x hx => g2 x (List.mem_cons_of_mem _ hx)⟩
    · simp only [st]; omega
    · simp only [st] at k2 ⊢; omega
  · intro now ⟨g1, g0, g2⟩ ha
    have k1 := rk_aft ha
    have k2 := g0 ha
    refine ⟨?_, ?_, fun hx => (st_n hr hx).2, g2⟩
    · simp only [st]; omega
    · simp only [st]; omega
def x0 (r : Rl) (c : Cl) : Cs := st r 1 c.a
def timeline (r : Rl) (c : Cl) (es : List Ce) : List Cs := x0 r c :: tl r c.b (x0 r c) es
/-- the statuses that have begun at a time -/
def upTo (u : Int) (l : List Cs) : List Cs := l.takeWhile fun x => decide (x.f ≤ u)
/-- the status at a time -/
def outV (r : Rl) (c : Cl) (es : List Ce) (t : Int) : Cs := ((upTo t (timeline r c es)).getLast?).getD ⟨0, 0, c.a⟩
def OkOut (r : Rl) (c : Cl) (es : List Ce) (t : Int) : Prop := ClmV r c es ∧ 0 ≤ t ∧ t ≤ 20000000
instance (r : Rl) (c : Cl) (es : List Ce) (t : Int) : Decidable (OkOut r c es t) := by unfold OkOut; infer_instance
def outR (r : Rl) (c : Cl) (es : List Ce) (t : Int) : Cs × Int := if OkOut r c es t then (outV r c es t, 0) else (⟨0, 0, 0⟩, 160)
def endsV (r : Rl) (c : Cl) : Int := c.a + r.a - 1 + r.s + r.c + r.r
end Go.Dial.Clm
