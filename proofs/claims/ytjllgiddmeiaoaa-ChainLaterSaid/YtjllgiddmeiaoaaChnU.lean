/-
  Plain mathematics of chains: which happenings a port has, when they are, what is in force at a time.
-/
import Derived.Test.YtjllgiddmeiaoaaChnT
set_option linter.unusedVariables false
set_option linter.unusedSimpArgs false
namespace Go.Dial.Chn
open Go.Dial.Clm Go.Dial.Lif
def lst (now : Cs) (l : List Cs) : Cs := l.getLast?.getD now
theorem lst_cons (now x : Cs) (l : List Cs) : lst now (x :: l) = lst x l := by
  cases l <;> simp [lst, List.getLast?_cons]
theorem lst_nil (now : Cs) : lst now [] = now := rfl
/-- the happenings behind a status, and the last status -/
def Shape (r : Rl) (i : Nat) (now : Cs) (L : List Hp) (z : Cs) : Prop :=
  (now.s ≤ 3 → (L = [] ∧ 6 ≤ z.s) ∨ (∃ f, now.f ≤ f ∧ L = [⟨f, i, false⟩] ∧ z = ⟨5, f + r.r, -1⟩) ∨ (∃ f g, now.f ≤ f ∧ f ≤ g ∧ g < f + r.r ∧ L = [⟨f, i, false⟩, ⟨g, i, true⟩] ∧ z.s = 8)) ∧
  (now.s = 4 → (L = [] ∧ z = ⟨5, now.f + r.r, -1⟩) ∨ (∃ g, now.f ≤ g ∧ g < now.f + r.r ∧ L = [⟨g, i, true⟩] ∧ z.s = 8)) ∧
  (5 ≤ now.s → L = [] ∧ z = now)
theorem shape_step {r : Rl} {i : Nat} {now : Cs} {s f : Int} {l : List Cs} (h : Shape r i (st r s f) (l.filterMap (hpOf i)) (lst (st r s f) l)) (hf : now.f ≤ f)
    (hs : (now.s ≤ 3 ∧ (s = 2 ∨ s = 3 ∨ s = 4 ∨ s = 6 ∨ s = 7)) ∨ (now.s = 4 ∧ ((s = 5 ∧ f = now.f + r.r) ∨ (s = 8 ∧ f < now.f + r.r)))) :
    Shape r i now ((st r s f :: l).filterMap (hpOf i)) (lst now (st r s f :: l)) := by
  rw [lst_cons, List.filterMap_cons]
  have e1 : (st r s f).s = s := rfl
  have e2 : (st r s f).f = f := rfl
  unfold Shape at h ⊢
  rw [e1, e2] at h
  obtain ⟨h1, h2, h3⟩ := h
  rcases hs with ⟨q, hs⟩ | ⟨q, hs⟩
  · refine ⟨fun _ => ?_, fun h => by omega, fun h => by omega⟩
    rcases hs with rfl | rfl | rfl | rfl | rfl
    · have : hpOf i (st r 2 f) = none := rfl
      rw [this]; simp only
      rcases h1 (by decide) with h | ⟨a, b, c⟩ | ⟨a, b, c, d⟩
      · exact .inl h
      · exact .inr (.inl ⟨a, by omega, c⟩)
      · exact .inr (.inr ⟨a, b, by omega, d⟩)
    · have : hpOf i (st r 3 f) = none := rfl
      rw [this]; simp only
      rcases h1 (by decide) with h | ⟨a, b, c⟩ | ⟨a, b, c, d⟩
      · exact .inl h
      · exact .inr (.inl ⟨a, by omega, c⟩)
      · exact .inr (.inr ⟨a, b, by omega, d⟩)
    · have : hpOf i (st r 4 f) = some ⟨f, i, false⟩ := rfl
      rw [this]; simp only
      rcases h2 rfl with ⟨h, g⟩ | ⟨g, a, b, c, d⟩
      · exact .inr (.inl ⟨f, hf, by rw [h], g⟩)
      · exact .inr (.inr ⟨f, g, hf, a, b, by rw [c], d⟩)
    · have : hpOf i (st r 6 f) = none := rfl
      rw [this]; simp only
      obtain ⟨h, g⟩ := h3 (by decide)
      exact .inl ⟨h, by rw [g, e1]; decide⟩
    · have : hpOf i (st r 7 f) = none := rfl
      rw [this]; simp only
      obtain ⟨h, g⟩ := h3 (by decide)
      exact .inl ⟨h, by rw [g, e1]; decide⟩
  · refine ⟨fun h => by omega, fun _ => ?_, fun h => by omega⟩
    rcases hs with ⟨rfl, hf'⟩ | ⟨rfl, hf'⟩
    · have : hpOf i (st r 5 f) = none := rfl
      rw [this]; simp only
      obtain ⟨h, g⟩ := h3 (by decide)
      exact .inl ⟨h, by rw [g, ← hf']; rfl⟩
    · have : hpOf i (st r 8 f) = some ⟨f, i, true⟩ := rfl
      rw [this]; simp only
      obtain ⟨h, g⟩ := h3 (by decide)
      exact .inr ⟨f, hf, hf', by rw [h], by rw [g]; rfl⟩
theorem tl_shape {r : Rl} (hr : RlV r) {b : Bool} {i : Nat} : ∀ (m : Nat) (now : Cs) (es : List Ce), 5 * es.length + rk now.s ≤ m → 1 ≤ now.s → (act now → now.n = now.f + dur r now.s) → EvV now.f es →
    Shape r i now ((tl r b now es).filterMap (hpOf i)) (lst now (tl r b now es)) := by
  have nil : ∀ now : Cs, 5 ≤ now.s → Shape r i now (([] : List Cs).filterMap (hpOf i)) (lst now []) := fun now h => ⟨fun h => by omega, fun h => by omega, fun _ => ⟨rfl, rfl⟩⟩
  have ni : ∀ s f, act (st r s f) → (st r s f).n = (st r s f).f + dur r (st r s f).s := fun s f ha => by
    unfold act at ha
    simp only [st] at ha ⊢
    rw [if_pos ha]
  have auto : ∀ now : Cs, act now → now.n = now.f + dur r now.s → (now.s ≤ 3 ∧ (aft now.s = 2 ∨ aft now.s = 3 ∨ aft now.s = 4 ∨ aft now.s = 6 ∨ aft now.s = 7)) ∨ (now.s = 4 ∧ ((aft now.s = 5 ∧ now.n = now.f + r.r) ∨ (aft now.s = 8 ∧ now.n < now.f + r.r))) := by
    intro now ha hn
    unfold act at ha
    have : now.s = 1 ∨ now.s = 2 ∨ now.s = 3 ∨ now.s = 4 := by omega
    rcases this with h | h | h | h <;> rw [h] at hn ⊢ <;> simp [aft, dur] at hn ⊢
    exact hn
  have later : ∀ now : Cs, act now → now.n = now.f + dur r now.s → now.f < now.n := fun now _ h => by
    have := dur_bd hr now.s
    omega
  have aft1 : ∀ s, 1 ≤ s → 1 ≤ aft s := fun s h => by unfold aft; split; omega; split <;> omega
  intro m
  induction m with
  | zero =>
    intro now es hm h1 hn hE
    have he : es = [] := by
      cases es with
      | nil => rfl
      | cons e es => simp at hm
    subst he
    by_cases ha : act now
    · have := rk_aft ha; omega
    · rw [tl_nil ha]
      exact nil now (by unfold act at ha; omega)
  | succ m ih =>
    intro now es hm h1 hn hE
    cases es with
    | nil =>
      by_cases ha : act now
      · rw [tl_end ha]
        exact shape_step (ih (st r (aft now.s) now.n) [] (by have := rk_aft ha; simp only [st]; omega) (aft1 _ h1) (ni _ _) trivial) (Int.le_of_lt (later now ha (hn ha))) (auto now ha (hn ha))
      · rw [tl_nil ha]
        exact nil now (by unfold act at ha; omega)
    | cons e es =>
      obtain ⟨hc, hE'⟩ := hE
      by_cases ha : act now ∧ now.n ≤ e.a
      · rw [tl_auto ha]
        exact shape_step (ih (st r (aft now.s) now.n) (e :: es) (by have := rk_aft ha.1; simp only [st]; omega) (aft1 _ h1) (ni _ _) ⟨⟨hc.1, hc.2.1, ha.2, hc.2.2.2⟩, hE'⟩) (Int.le_of_lt (later now ha.1 (hn ha.1))) (auto now ha.1 (hn ha.1))
      · by_cases hbb : bec b now.s e < 0
        · rw [tl_void ha hbb]
          exact ih now es (by simp only [List.length_cons] at hm; omega) h1 hn (evV_mono hE' hc.2.2.1)
        · rw [tl_ev ha hbb]
          have h8 := bec_cases hbb
          refine shape_step (ih (st r (bec b now.s e) e.a) es (by simp only [List.length_cons] at hm; have := rk_le (st r (bec b now.s e) e.a).s; omega) (by simp only [st]; omega) (ni _ _) hE') hc.2.2.1 ?_
          rcases h8 with ⟨q1, q2, q3⟩ | ⟨q1, q2⟩
          · exact .inl ⟨q2, by omega⟩
          · have hact : act now := ⟨by omega, by omega⟩
            have := hn hact
            have hd : dur r now.s = r.r := by rw [q1]; rfl
            refine .inr ⟨q1, .inr ⟨q2, ?_⟩⟩
            have : ¬ now.n ≤ e.a := fun h => ha ⟨hact, h⟩
            omega
/-- the happenings of a port -/
theorem port_shape {r : Rl} {c : Cl} {es : List Ce} (h : ClmV r c es) (i : Nat) : Shape r i (x0 r c) ((timeline r c es).filterMap (hpOf i)) (lst (x0 r c) (tl r c.b (x0 r c) es)) := by
  have := tl_shape h.1 (b := c.b) (i := i) _ (x0 r c) es (Nat.le_refl _) (show (1 : Int) ≤ 1 by decide) (fun _ => by simp [x0, st, dur]) h.2.2.2
  unfold timeline
  rw [List.filterMap_cons]
  have h0 : hpOf i (x0 r c) = none := by unfold hpOf x0 st; simp
  rw [h0]
  exact this
theorem port_cases {r : Rl} {c : Cl} {es : List Ce} (h : ClmV r c es) (i : Nat) : ((timeline r c es).filterMap (hpOf i) = [] ∧ 6 ≤ (lst (x0 r c) (tl r c.b (x0 r c) es)).s) ∨
    (∃ f, c.a ≤ f ∧ (timeline r c es).filterMap (hpOf i) = [⟨f, i, false⟩] ∧ lst (x0 r c) (tl r c.b (x0 r c) es) = ⟨5, f + r.r, -1⟩) ∨
    (∃ f g, c.a ≤ f ∧ f ≤ g ∧ g < f + r.r ∧ (timeline r c es).filterMap (hpOf i) = [⟨f, i, false⟩, ⟨g, i, true⟩] ∧ (lst (x0 r c) (tl r c.b (x0 r c) es)).s = 8) := (port_shape h i).1 (show (1 : Int) ≤ 3 by decide)
/-- no status begins after all deadlines -/
def bnd (r : Rl) (c : Cl) (s : Int) : Int := if s = 1 then c.a else if s = 2 then c.a + r.a - 1 else if s = 3 then c.a + r.a - 1 + r.s else if s = 4 then c.a + r.a - 1 + r.s + r.c else endsV r c
theorem timeline_ends {r : Rl} {c : Cl} {es : List Ce} (h : ClmV r c es) : ∀ x ∈ timeline r c es, x.f ≤ endsV r c := by
  have hr := h.1
  have hle : ∀ s, bnd r c s ≤ endsV r c := fun s => by unfold RlV at hr; unfold bnd endsV; grind
  have key : ∀ now : Cs, now.f ≤ bnd r c now.s → act now → now.n = now.f + dur r now.s → now.n ≤ bnd r c (aft now.s) := fun now h1 ha hn => by
    unfold act at ha
    unfold RlV at hr
    have : now.s = 1 ∨ now.s = 2 ∨ now.s = 3 ∨ now.s = 4 := by omega
    rcases this with h | h | h | h <;> rw [h] at hn h1 ⊢ <;> simp [aft, dur, bnd, endsV] at hn h1 ⊢ <;> omega
  have kev : ∀ (b : Bool) (now : Cs) (e : Ce), now.f ≤ bnd r c now.s → (act now → now.n = now.f + dur r now.s) → ¬ (act now ∧ now.n ≤ e.a) → ¬ bec b now.s e < 0 → e.a ≤ bnd r c (bec b now.s e) := fun b now e h1 hn ha hb => by
    have h8 := bec_cases hb
    have hact : act now := by unfold act; omega
    have hn := hn hact
    have ha : e.a < now.n := by
      rcases Int.lt_or_le e.a now.n with h | h
      · exact h
      · exact absurd ⟨hact, h⟩ ha
    unfold RlV at hr
    rcases h8 with ⟨q1, q2, q3⟩ | ⟨q1, q2⟩
    · have : now.s = 1 ∨ now.s = 2 ∨ now.s = 3 := by omega
      have hk : bec b now.s e = 2 → now.s = 1 := fun hk => by unfold bec at hk; grind
      have hk3 : bec b now.s e = 3 → now.s ≤ 2 := fun hk => by unfold bec at hk; grind
      have hk6 : bec b now.s e = 6 → now.s ≤ 2 := fun hk => by unfold bec at hk; grind
      rcases this with h | h | h <;> rw [h] at hn h1 hk hk3 hk6 <;> simp [dur, bnd] at hn h1 <;> rcases q3 with q | q | q | q <;> rw [h] at q <;> rw [h, q] <;> simp [bnd, endsV] <;> grind
    · rw [q2]; rw [q1] at hn h1
      simp [dur, bnd, endsV] at hn h1 ⊢
      omega
  intro x hx
  unfold timeline at hx
  rcases List.mem_cons.1 hx with rfl | hx
  · have := hle 1
    simpa [bnd, x0, st] using this
  · refine tl_all (r := r) (b := c.b) (fun x => x.f ≤ endsV r c) (fun now _ => now.f ≤ bnd r c now.s ∧ (act now → now.n = now.f + dur r now.s)) ?_ ?_ ?_ ?_ _ (x0 r c) es (Nat.le_refl _) ⟨by simp [x0, st, bnd], fun _ => by simp [x0, st, dur]⟩ x hx
    · intro now e es ⟨g1, g2⟩ ha _
      have := key now g1 ha (g2 ha)
      exact ⟨Int.le_trans this (hle _), this, fun hx => by unfold act at hx; simp only [st] at hx ⊢; rw [if_pos hx]⟩
    · intro now e es g _ _
      exact g
    · intro now e es ⟨g1, g2⟩ ha hb
      have := kev c.b now e g1 g2 ha hb
      exact ⟨Int.le_trans this (hle _), this, fun hx => by unfold act at hx; simp only [st] at hx ⊢; rw [if_pos hx]⟩
    · intro now ⟨g1, g2⟩ ha
      have := key now g1 ha (g2 ha)
      exact ⟨Int.le_trans this (hle _), this, fun hx => by unfold act at hx; simp only [st] at hx ⊢; rw [if_pos hx]⟩
end Go.Dial.Chn
